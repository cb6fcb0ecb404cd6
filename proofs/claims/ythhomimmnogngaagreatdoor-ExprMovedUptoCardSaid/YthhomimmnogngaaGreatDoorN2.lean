/- A part of the proof: contracts of functions, by a verified generator of conditions; no condition of its own. -/
import Derived.Test.YthhomimmnogngaaGreatDoorLk
import Derived.Shelf.SlIterI.Nil
import Derived.Shelf.SortM.Plain
import Derived.Shelf.SortM.SortNone
import Derived.Ground.GgzProg
import Derived.Ground.SlgmProg
import Derived.Test.YthhomimmnogngaaGreatDoorProg
import Derived.Test.YthhomimmnogngaaGreatDoorB14
import Derived.Test.YthhomimmnogngaaGreatDoorE9
import Derived.Test.YthhomimmnogngaaGreatDoorB8
import Derived.Test.YthhomimmnogngaaGreatDoorDm21
namespace Go.Proofs
open Go.Shelf
def Tryz.keysA_ren:Go.Shelf.Ren:=⟨fun|7=>21|10=>48|n=>n,fun|23=>55|26=>3|3=>4|28=>59|0=>0|27=>58|33=>84|4=>4|n=>n,fun|n=>n⟩
theorem Tryz.keysA:Go.Proofs.SlLaysZI.n7 Tryz.prog Tryz.keysA_ren:={
 mixed:=by kernel_rfl
 f7:=⟨Tryz.f21.name,by decide,Tryz.func21.trans (congrArg some (by kernel_rfl))⟩
 f10:=⟨Tryz.f48.name,by decide,Tryz.func48.trans (congrArg some (by kernel_rfl))⟩
 t0:=Tryz.underlying0
 a0:=Tryz.isAgg0
 z0:=Tryz.sizeOf0
 v0:=Tryz.zeroValue0
 t4:=Tryz.underlying4
 a4:=Tryz.isAgg4
 z4:=Tryz.sizeOf4
 v4:=Tryz.zeroValue4
 t23:=Tryz.underlying55
 a23:=Tryz.isAgg55
 z23:=Tryz.sizeOf55
 v23:=Tryz.zeroValue55
 t26:=Tryz.underlying3
 a26:=Tryz.isAgg3
 z26:=Tryz.sizeOf3
 v26:=Tryz.zeroValue3
 t27:=Tryz.underlying58
 a27:=Tryz.isAgg58
 z27:=Tryz.sizeOf58
 v27:=Tryz.zeroValue58
 t28:=Tryz.underlying59
 a28:=Tryz.isAgg59
 z28:=Tryz.sizeOf59
 v28:=Tryz.zeroValue59
 t33:=Tryz.underlying84
 a33:=Tryz.isAgg84
 z33:=Tryz.sizeOf84
 v33:=Tryz.zeroValue84}
def Tryz.sortedA_ren:Go.Shelf.Ren:=⟨fun|6=>20|8=>46|9=>47|11=>81|13=>83|12=>82|23=>111|24=>112|14=>102|15=>103|16=>104|17=>105|18=>106|19=>107|20=>108|21=>109|22=>110|25=>136|26=>137|27=>138|28=>139|29=>140|30=>141|31=>163|n=>n,fun|26=>3|28=>59|24=>34|0=>0|3=>3|37=>122|48=>152|50=>139|4=>4|40=>145|39=>144|45=>75|5=>5|9=>9|51=>175|55=>179|57=>200|58=>201|33=>84|n=>n,fun|n=>n⟩
theorem Tryz.sortedA:Go.Proofs.SlLaysZI.n6 Tryz.prog Tryz.sortedA_ren:={
 mixed:=by kernel_rfl
 f6:=⟨Tryz.f20.name,by decide,Tryz.func20.trans (congrArg some (by kernel_rfl))⟩
 f8:=⟨Tryz.f46.name,by decide,Tryz.func46.trans (congrArg some (by kernel_rfl))⟩
 f11:=⟨Tryz.f81.name,by decide,Tryz.func81.trans (congrArg some (by kernel_rfl))⟩
 t0:=Tryz.underlying0
 a0:=Tryz.isAgg0
 z0:=Tryz.sizeOf0
 v0:=Tryz.zeroValue0
 t24:=Tryz.underlying34
 a24:=Tryz.isAgg34
 z24:=Tryz.sizeOf34
 v24:=Tryz.zeroValue34
 t26:=Tryz.underlying3
 a26:=Tryz.isAgg3
 z26:=Tryz.sizeOf3
 v26:=Tryz.zeroValue3
 t28:=Tryz.underlying59
 a28:=Tryz.isAgg59
 z28:=Tryz.sizeOf59
 v28:=Tryz.zeroValue59
 i26:=by kernel_rfl}
def Tryz.sortA_ren:Go.Shelf.Ren:=⟨fun|5=>47|8=>83|7=>82|19=>111|20=>112|10=>102|11=>103|12=>104|13=>105|14=>106|15=>107|16=>108|17=>109|18=>110|30=>136|31=>137|32=>138|33=>139|34=>140|35=>141|40=>163|n=>n,fun|23=>34|25=>3|3=>3|32=>122|22=>34|0=>0|44=>152|46=>139|4=>4|36=>145|35=>144|41=>75|5=>5|9=>9|53=>175|57=>179|63=>200|64=>201|n=>n,fun|n=>n⟩
theorem Tryz.sortA:Go.Proofs.SlLaysM.n5 Tryz.prog Tryz.sortA_ren:={
 mixed:=by kernel_rfl
 f5:=⟨Tryz.f47.name,by decide,Tryz.func47.trans (congrArg some (by kernel_rfl))⟩
 f7:=⟨Tryz.f82.name,by decide,Tryz.func82.trans (congrArg some (by kernel_rfl))⟩
 f8:=Tryz.func83.trans (congrArg some (by kernel_rfl))
 f10:=⟨Tryz.f102.name,by decide,Tryz.func102.trans (congrArg some (by kernel_rfl))⟩
 f11:=⟨Tryz.f103.name,by decide,Tryz.func103.trans (congrArg some (by kernel_rfl))⟩
 f12:=⟨Tryz.f104.name,by decide,Tryz.func104.trans (congrArg some (by kernel_rfl))⟩
 f13:=⟨Tryz.f105.name,by decide,Tryz.func105.trans (congrArg some (by kernel_rfl))⟩
 f14:=⟨Tryz.f106.name,by decide,Tryz.func106.trans (congrArg some (by kernel_rfl))⟩
 f15:=⟨Tryz.f107.name,by decide,Tryz.func107.trans (congrArg some (by kernel_rfl))⟩
 f16:=⟨Tryz.f108.name,by decide,Tryz.func108.trans (congrArg some (by kernel_rfl))⟩
 f17:=⟨Tryz.f109.name,by decide,Tryz.func109.trans (congrArg some (by kernel_rfl))⟩
 f18:=⟨Tryz.f110.name,by decide,Tryz.func110.trans (congrArg some (by kernel_rfl))⟩
 f19:=Tryz.func111.trans (congrArg some (by kernel_rfl))
 f20:=Tryz.func112.trans (congrArg some (by kernel_rfl))
 f30:=⟨Tryz.f136.name,by decide,Tryz.func136.trans (congrArg some (by kernel_rfl))⟩
 f31:=Tryz.func137.trans (congrArg some (by kernel_rfl))
 f32:=Tryz.func138.trans (congrArg some (by kernel_rfl))
 f33:=⟨Tryz.f139.name,by decide,Tryz.func139.trans (congrArg some (by kernel_rfl))⟩
 f34:=⟨Tryz.f140.name,by decide,Tryz.func140.trans (congrArg some (by kernel_rfl))⟩
 f35:=⟨Tryz.f141.name,by decide,Tryz.func141.trans (congrArg some (by kernel_rfl))⟩
 f40:=⟨Tryz.f163.name,by decide,Tryz.func163.trans (congrArg some (by kernel_rfl))⟩
 t0:=Tryz.underlying0
 a0:=Tryz.isAgg0
 z0:=Tryz.sizeOf0
 v0:=Tryz.zeroValue0
 t3:=Tryz.underlying3
 a3:=Tryz.isAgg3
 z3:=Tryz.sizeOf3
 v3:=Tryz.zeroValue3
 t4:=Tryz.underlying4
 a4:=Tryz.isAgg4
 z4:=Tryz.sizeOf4
 v4:=Tryz.zeroValue4
 t5:=Tryz.underlying5
 a5:=Tryz.isAgg5
 z5:=Tryz.sizeOf5
 v5:=Tryz.zeroValue5
 t9:=Tryz.underlying9
 a9:=Tryz.isAgg9
 z9:=Tryz.sizeOf9
 v9:=Tryz.zeroValue9
 t22:=Tryz.underlying34
 a22:=Tryz.isAgg34
 z22:=Tryz.sizeOf34
 v22:=Tryz.zeroValue34
 t23:=Tryz.underlying34
 a23:=Tryz.isAgg34
 z23:=Tryz.sizeOf34
 v23:=Tryz.zeroValue34
 t25:=Tryz.underlying3
 a25:=Tryz.isAgg3
 z25:=Tryz.sizeOf3
 v25:=Tryz.zeroValue3
 t32:=Tryz.underlying122
 a32:=Tryz.isAgg122
 z32:=Tryz.sizeOf122
 v32:=Tryz.zeroValue122
 t35:=Tryz.underlying144
 a35:=Tryz.isAgg144
 z35:=Tryz.sizeOf144
 v35:=Tryz.zeroValue144
 t36:=Tryz.underlying145
 a36:=Tryz.isAgg145
 z36:=Tryz.sizeOf145
 v36:=Tryz.zeroValue145
 t41:=Tryz.underlying75
 a41:=Tryz.isAgg75
 z41:=Tryz.sizeOf75
 v41:=Tryz.zeroValue75
 t44:=Tryz.underlying152
 a44:=Tryz.isAgg152
 z44:=Tryz.sizeOf152
 v44:=Tryz.zeroValue152
 t46:=Tryz.underlying139
 a46:=Tryz.isAgg139
 z46:=Tryz.sizeOf139
 v46:=Tryz.zeroValue139
 t53:=Tryz.underlying175
 a53:=Tryz.isAgg175
 z53:=Tryz.sizeOf175
 v53:=Tryz.zeroValue175
 t57:=Tryz.underlying179
 a57:=Tryz.isAgg179
 z57:=Tryz.sizeOf179
 v57:=Tryz.zeroValue179
 t63:=Tryz.underlying200
 a63:=Tryz.isAgg200
 z63:=Tryz.sizeOf200
 v63:=Tryz.zeroValue200
 t64:=Tryz.underlying201
 a64:=Tryz.isAgg201
 z64:=Tryz.sizeOf201
 v64:=Tryz.zeroValue201}
end Go.Proofs
namespace Go.Proofs.Tryz
open Go Go.Dm Go.Ex Go.RowKit Go.Lib Go.Sort Go.Proofs Go.Maps Go.Shelf
theorem sortsA(m:Nat):AnyZI.SortsIn prog sortedA_ren Fence.wide m:=
 ⟨fun blk off cap ss W hH hblk hsz=>callsIn_wide.2 (AnyM.slices_Sort_int sortA blk off cap ss W hH hblk hsz),
  fun p cap W=>callsIn_wide.2 (AnyM.slices_Sort_int_none sortA p cap W)⟩
theorem keys_call(mb:Nat)(W:World):Calls prog 21 #[.map (some mb)] W fun e w'=>e = .returned (.func (.func 48) #[] #[.pointer (some ⟨W.heap.size,0,none⟩)])∧w'=W.alloc (.cells #[.map (some mb)] 55):=
 (callsIn_wide (n:=5)).1 (AnyZI.keys_in keysA Fence.wide 5 trivial rfl (some mb) W)
theorem sorted_call{N:Nat}(hN:N≤17592186044416)(W:World)(mb:Nat)(D0:DataW Unit){R:Value→Option (DataW Unit×List MemPlace)}(hown:W.ownsMap prog 3 R mb N D0):
  Calls prog 20 #[.func (.func 48) #[] #[.pointer (some ⟨W.heap.size,0,none⟩)]] (W.alloc (.cells #[.map (some mb)] 55)) fun e w'=>∃(v:Value) (ss:List Int),e = .returned v∧ss.Perm (intKeys D0)∧
   w'.ownsRow (W.heap.size+1) 3 1 v ss.length ((ss.mergeSort (fun x y=>decide (x≤y))).map encZ)∧Below (W.heap.size+1) (W.alloc (.cells #[.map (some mb)] 55)) w':=by
 have hbl:=hown.lt
 have hsz:=hown.size_le
 have hmax:Maps.size D0≤maxLen:=Nat.le_trans hsz (Nat.le_trans hN (by decide))
 have hseq:SeqGives Fence.wide 2 prog 48 #[.pointer (some ⟨W.heap.size,0,none⟩)] encZ (fun ss=>ss.Perm (intKeys D0)) (Maps.size D0) (W.alloc (.cells #[.map (some mb)] 55)):=
  AnyZI.keys_gives (ρ:=keysA_ren) {keysA with} Fence.wide _ trivial rfl (by omega) W.heap.size mb N D0 _ (by simp) (by simp) (by
   obtain⟨es,clock,hb,Ft,hs,hD⟩:=hown
   exact⟨es,clock,(Below.heap_alloc _ _ mb hbl).trans hb,Ft,hs,hD⟩)
 have cS:=AnyZI.sorted_in sortedA Fence.wide 5 trivial trivial trivial trivial rfl (by omega) (sortsA _) (enters_of func47 (by kernel_rfl) rfl) 48 #[.pointer (some ⟨W.heap.size,0,none⟩)] trivial (enters_of func48 (by kernel_rfl) rfl) _ _ hmax (by omega) _ hseq
 have e1:(W.alloc (.cells #[.map (some mb)] 55)).heap.size=W.heap.size+1:=by show(W.heap.push _).size=_;simp
 rw[e1]at cS
 exact((callsIn_wide (n:=5)).1 cS).mono fun e w' ⟨v,ss,h1,h2,h3,_,h4⟩=>⟨v,ss,h1,h2,h3,h4⟩
theorem mem_intKeys{w:World}{mb N:Nat}{D0:DataW Unit}(h:w.ownsMap prog 3 (plainElem prog 4) mb N D0)(x:Int):x∈intKeys D0↔has D0 (.int .i64 x)=true:=by
 obtain⟨es,rfl,hko⟩:=h.keysOf
 rw[has_eq,List.any_eq_true]
 show x∈es.map (fun p=>Go.intOf p.1)↔_
 rw[List.mem_map]
 constructor
 ·rintro⟨p,hp,rfl⟩
  obtain⟨v,hv⟩:=hko p hp
  obtain⟨y,_,hy,_⟩:=Maps.keyOf_i64 underlying3 hv
  exact⟨p,hp,by rw[hy];simp[Lit.sameKey,Go.intOf]⟩
 ·rintro⟨p,hp,hs⟩
  obtain⟨v,hv⟩:=hko p hp
  obtain⟨y,_,hy,_⟩:=Maps.keyOf_i64 underlying3 hv
  rw[hy]at hs
  exact⟨p,hp,by rw[hy];simpa[Lit.sameKey,Go.intOf]using hs⟩
theorem len_intKeys(D0:DataW Unit):(intKeys D0).length≤Maps.size D0:=by
 cases D0<;>simp[intKeys,Maps.size]
set_option maxHeartbeats 4000000 in
set_option maxRecDepth 1000000 in
theorem columns_walk(N:Nat)(hN:N≤17592186044416)(e:EX)(hf:fits e)(hc:∀x∈colsE e,0≤x∧x<N)(ok:Nat→Prop)(w:World)(xs:Array Value)(hx:xs.size=10)
  (hrd:∀(i:Nat) x v,(cells e)[i]? = some x→xs[i]? = some v→Rd ok w v x) (hok:∀b,ok b→b<w.heap.size):
  Calls prog 6 #[.agg xs] w fun r w'=>∃(v:Value) (ss:List Int),r = .returned v∧(∀x,x∈ss↔x∈colsE e)∧ss.length≤N∧w'.ownsRow w.heap.size 3 1 v ss.length ((ss.mergeSort (fun x y=>decide (x≤y))).map encZ)∧Upd [] w.heap.size w w':=by
 obtain⟨x0,x1,x2,x3,x4,x5,x6,x7,x8,x9,rfl⟩:=ten hx
 obtain⟨op,sub,t,va,args⟩:=e
 have hrd0:=hrd
 simp only[cells]at hrd
 obtain rfl:=rd_v (hrd 0 _ x0 rfl rfl)
 obtain rfl:=rd_v (hrd 1 _ x1 rfl rfl)
 obtain rfl:=rd_v (hrd 2 _ x2 rfl rfl)
 obtain rfl:=rd_v (hrd 3 _ x3 rfl rfl)
 obtain rfl:=rd_v (hrd 4 _ x4 rfl rfl)
 obtain rfl:=rd_v (hrd 5 _ x5 rfl rfl)
 obtain rfl:=rd_v (hrd 6 _ x6 rfl rfl)
 obtain rfl:=rd_v (hrd 7 _ x7 rfl rfl)
 obtain rfl:=rd_v (hrd 8 _ x8 rfl rfl)
 obtain⟨ad,cap,hA⟩:=argM_of (hrd 9 _ x9 rfl rfl)
 obtain rfl:=hA.eq
 clear hrd hA
 generalize hV:#[Value.int .i64 op,.int .i64 sub,.int .i64 t.k,.int .i64 t.sc,.int .i64 va.t.k,.int .i64 va.t.sc,.bool va.nul,.int .i64 va.n,.string va.s,.slice ad args.length cap]=V at hrd0
 generalize hW1:(w.alloc (Obj.cells V 28)).alloc (.map #[] 0)=W1
 have hz:W1.heap.size=w.heap.size+2:=by rw[←hW1];show((w.heap.push _).push _).size=_;simp
 have hmap:MapI W1 (w.heap.size+1) N (fun _=>False):=by
  rw[←hW1]
  have h0:=World.ownsMap_made (H:=Unit) (w.alloc (Obj.cells V 28)) prog 3 (plainElem prog 4)
  have e1:(w.alloc (Obj.cells V 28)).heap.size=w.heap.size+1:=by show(w.heap.push _).size=_;simp
  rw[e1]at h0
  exact⟨.map [],h0.mono (Nat.zero_le _),fun x=>by simp[has],fun x h=>h.elim⟩
 have hU1:Upd [w.heap.size+1] w.heap.size w W1:=by
  rw[←hW1]
  exact upd_then (alloc_upd _) (alloc_upd _)
 have hlook:=look_walk N (by omega) _ (.mk op sub t va args) (Nat.lt_succ_self _) hf hc ok W1 (w.heap.size+1) _ V (by rw[←hV];rfl) (fun i x y h1 h2=>(hrd0 i x y h1 h2).mono (fun _ h=>h) (fun b hb=>hU1.block b (hok b hb) (by have:=hok b hb;simp;omega)))
  (fun b hb=>by have:=hok b hb;omega) (fun h=>by have:=hok _ h;omega) hmap
 subst hV
 subst hW1
 clear hmap
 have AU1:Aside (Upd [w.heap.size+1] w.heap.size w ((w.alloc (Obj.cells #[Value.int .i64 op,.int .i64 sub,.int .i64 t.k,.int .i64 t.sc,.int .i64 va.t.k,.int .i64 va.t.sc,.bool va.nul,.int .i64 va.n,.string va.s,.slice ad args.length cap] 28)).alloc (.map #[] 0))):=hU1
 clear hU1 hrd0 hx
 have hmm:=@run_makeMap prog
 go_enter func6,(show f6.ntmps=11 from by kernel_rfl)
 go_wp2_with (first
  |(go_at_call 19;refine hlook.mono ?_;rintro e w3 ⟨rfl,⟨D3,hown3,hh3,hr3⟩,hU3⟩;have A3:Aside (Upd [w.heap.size+1] w.heap.size w w3):=upd_then AU1.out hU3;have B3:Aside (∀x,has D3 (.int .i64 x)=true↔False∨x∈colsE (.mk op sub t va args)):=hh3;clear hh3 hr3 hU3)
  |(go_at_call 21;refine(keys_call _ _).mono ?_;rintro e w4 ⟨rfl,rfl⟩)
  |(go_at_call 20;refine(sorted_call hN _ _ _ hown3).mono ?_;rintro e w5 ⟨v,ss,rfl,hp,hrow,hbl⟩))
 go_ret
 have hm:∀x,x∈ss↔x∈colsE (EX.mk op sub t va args):=fun x=>by rw[hp.mem_iff,mem_intKeys hown3,B3.out];simp
 have hU:=A3.out
 have hsz:(w3.alloc (Obj.cells #[Value.map (some (w.heap.size+1))] 55)).heap.size=w3.heap.size+1:=by show(w3.heap.push _).size=_;simp
 refine⟨v,ss,rfl,hm,?_,ownsRow_base_a hrow (by have:=hU.size;omega),?_,?_,?_,?_,fun k hk _=>?_⟩
 ·rw[hp.length_eq];exact Nat.le_trans (len_intKeys D3) hown3.size_le
 ·exact hbl.os.trans hU.os
 ·exact hbl.tape.trans hU.tape
 ·exact hbl.output.trans hU.output
 ·have h1:=hbl.size;have h2:=hU.size;rw[hsz]at h1;omega
 ·have h2:=hU.size
  rw[hbl.block k (by omega),Below.heap_alloc _ _ _ (by omega)]
  exact hU.block k hk (by simp;omega)
def colsS(N:Nat)(e:EX):List Int:=((List.range N).filter fun(n:Nat)=>decide ((n:Int)∈colsE e)).map fun(n:Nat)=>(n:Int)
theorem colsS_pw(N:Nat)(e:EX):(colsS N e).Pairwise (·≤·):=by
 unfold colsS
 rw[List.pairwise_map]
 exact(List.pairwise_lt_range.filter _).imp fun h=>by omega
theorem colsS_mem{N:Nat}{e:EX}(hc:∀x∈colsE e,0≤x∧x<N)(x:Int):x∈colsS N e↔x∈colsE e:=by
 unfold colsS
 simp only[List.mem_map,List.mem_filter,List.mem_range,decide_eq_true_eq]
 constructor
 ·rintro⟨n,⟨_,h⟩,rfl⟩;exact h
 ·intro h
  have:=hc x h
  exact⟨x.toNat,⟨by omega,by rw[Int.toNat_of_nonneg this.1];exact h⟩,by omega⟩
theorem colsS_len(N:Nat)(e:EX):(colsS N e).length≤N:=by
 unfold colsS
 rw[List.length_map]
 exact Nat.le_trans (List.length_filter_le _ _) (by simp)
abbrev intsD(l:List Int):List (List D):=l.map fun x=>[.v (.int .i64 x)]
theorem ct177{gl:Nat→Option Obj}(N:Nat)(hN:N≤17592186044416)(e:EX)(hf:fits e)(hc:∀x∈colsE e,0≤x∧x<N):
  Ct prog gl 6 [.agg (cells e)] (fun res fin=>fin=[]∧∃L:List Int,L.Pairwise (·≤·)∧(∀x,x∈L↔x∈colsE e)∧L.length≤N∧res=[.d (.sl (intsD L))]):=by
 have tr:∀a b c:Int,leI a b=true→leI b c=true→leI a c=true:=fun a b c h1 h2=>by simp only[leI,decide_eq_true_eq]at *;exact Int.le_trans h1 h2
 have tto:∀a b:Int,(leI a b||leI b a)=true:=fun a b=>by simp only[leI,Bool.or_eq_true,decide_eq_true_eq];exact Int.le_total a b
 have hfn:FnOk prog 6:=fnOk_of func6 (by kernel_rfl) (by kernel_rfl)
 have run:∀(w:World) (ok:Nat→Prop) (vs:List Value) (bs:List Nat),(∀b,ok b→b<w.heap.size)→ArgsR ok w bs [.agg (cells e)] vs→Calls prog 6 vs.toArray w (CtPost ok bs w (fun res fin=>fin=[]∧∃L:List Int,L.Pairwise (·≤·)∧(∀x,x∈L↔x∈colsE e)∧L.length≤N∧res=[.d (.sl (intsD L))])):=by
  intro w ok vs bs h1 h4
  cases h4 with
  |agg hs hr hrest=>
  cases hrest
  rename_i xs
  have h10:(cells e).length=10:=cellsL_all (l:=[e]) _ (by simp[cellsL])
  refine(columns_walk N hN e hf hc ok w xs (by omega) hr h1).mono fun r w' ⟨v,ss,h5,h6,h7,h8,h9⟩=>?_
  subst h5
  generalize hL:(ss.mergeSort (fun x y=>decide (x≤y)))=L at h8
  have hlen:L.length=ss.length:=by rw[←hL];exact List.length_mergeSort ss
  have hmem:∀x,x∈L↔x∈colsE e:=fun x=>by rw[←hL,List.mem_mergeSort];exact h6 x
  have hpw:L.Pairwise (·≤·):=by
   have:=List.pairwise_mergeSort tr tto ss
   rw[show ss.mergeSort leI=L from hL]at this
   exact this.imp fun h=>by simpa[leI]using h
  obtain⟨hxl,hv⟩:=h8
  rcases hv with⟨rfl,h0⟩|⟨g,cap,cur,rfl,hg,hgb,hnc,_,hcs,htk⟩
  ·obtain rfl:L=[]:=List.eq_nil_of_length_eq_zero (by omega)
   exact⟨[.d (.sl [])],[],[.slice none 0 0],ok,[],rfl,⟨rfl,[],.nil,hmem,by simp,rfl⟩,fun _ h=>h,fun _ h=>.inl h,fun b hb=>Nat.lt_of_lt_of_le (h1 b hb) h9.size,h9,.d .nil .nil,List.nodup_nil,(by intro b hb;cases hb),rfl,(by intro i n cs h;simp at h)⟩
  ·have hglt:g<w'.heap.size:=(Array.getElem?_eq_some_iff.1 hgb).1
   rw[←hlen]
   refine⟨[.d (.sl (intsD L))],[],[.slice (some ⟨g,0,none⟩) L.length cap],fun b=>ok b∨b=g,[],rfl,⟨rfl,L,hpw,hmem,by omega,rfl⟩,fun _ h=>.inl h,fun b h=>h.elim .inl (fun e=>.inr (by omega)),
    fun b hb=>hb.elim (fun hb=>Nat.lt_of_lt_of_le (h1 b hb) h9.size) (fun e=>e▸hglt),h9,.d ?_ .nil,List.nodup_nil,(by intro b hb;cases hb),rfl,(by intro i n cs h;simp at h)⟩
   have:=Rd.sl (ok:=fun b=>ok b∨b=g) (w:=w') (b:=g) (off:=0) (cap:=cap) (es:=intsD L) 1 (fun i _=>.int .i64 (L.getD i 0)) (by simp;omega) (fun _=>.inr rfl) (fun c hc=>by obtain⟨x,_,rfl⟩:=List.mem_map.1 hc;rfl)
    (fun i j hi hj=>?_) (fun i j hi hj=>?_)
   ·simp only[List.length_map]at this;exact this
   ·simp only[List.length_map]at hi
    obtain rfl:j=0:=by omega
    have e1:cur[i]? = some (.int .i64 (L.getD i 0)):=by
     have e2:(cur.toList.take (ss.length*1))[i]? = (L.map encZ)[i]?:=by rw[htk]
     rw[List.getElem?_take,if_pos (by omega),List.getElem?_map,List.getElem?_eq_getElem hi]at e2
     rw[←Array.getElem?_toList,e2,List.getD_eq_getElem?_getD,List.getElem?_eq_getElem hi];rfl
    show World.cell? w' ⟨g,0+(i*1+0),none⟩=_
    rw[World.cell?,hgb]
    simpa using e1
   ·simp only[List.length_map]at hi
    obtain rfl:j=0:=by omega
    have:((intsD L).getD i []).getD 0 default=D.v (.int .i64 (L.getD i 0)):=by
     have e3:(intsD L).getD i []=[D.v (.int .i64 (L.getD i 0))]:=by
      rw[List.getD_eq_getElem?_getD,List.getElem?_map,List.getElem?_eq_getElem hi,List.getD_eq_getElem?_getD,List.getElem?_eq_getElem hi];rfl
     rw[e3];rfl
    rw[this]
    exact .v rfl
 exact⟨hfn,⟨_,_,rfl,colsS N e,colsS_pw N e,colsS_mem hc,colsS_len N e,rfl⟩,fun w ok vs bs _ h1 _ _ h4=>run w ok vs bs h1 h4⟩
def c_177(a:List R)(K:KT):Prop:=match a with
 |[.agg x]=>∃(e:EX) (N:Nat),x=cells e∧fits e∧N≤17592186044416∧(∀y∈colsE e,0≤y∧y<N)∧∀L:List Int,L.Pairwise (·≤·)→(∀y,y∈L↔y∈colsE e)→L.length≤N→K [.d (.sl (intsD L))] []
 |_=>False
theorem c_177_ok{gl:Nat→Option Obj}(a:List R)(K:KT)(h:c_177 a K):Ct prog gl 6 a K:=by
 unfold c_177 at h
 split at h
 ·obtain⟨e,N,rfl,h1,h2,h3,h4⟩:=h
  exact(ct177 N h2 e h1 h3).mono fun r f ⟨e1,L,e2,e3,e4,e5⟩=>by subst e1;subst e5;exact h4 L e2 e3 e4
 ·exact h.elim
end Go.Proofs.Tryz
namespace Go.Proofs.Tryz
open Go Go.Dm Go.Ex
set_option maxRecDepth 100000
mutual
theorem evE_like{row row':List Go.Ex.AV}(ht:typesV row=typesV row'):∀e:EX,(∀x∈colsE e,row[x.toNat]? = row'[x.toNat]?)→evE row e=evE row' e
 | .mk op sub t v args,h=>by
   simp only[evE,ht]
   rw[evL_like ht args (fun x hx=>h x (by simp only[colsE];exact List.mem_append_right _ hx))]
   unfold evN
   by_cases ho:op=1
   ·simp only[if_pos ho];exact h sub (by simp[colsE,ho])
   ·simp only[if_neg ho]
theorem evL_like{row row':List Go.Ex.AV}(ht:typesV row=typesV row'):∀l:List EX,(∀x∈colsL l,row[x.toNat]? = row'[x.toNat]?)→evL row l=evL row' l
 |[],_=>by simp only[evL]
 |e::r,h=>by
  simp only[evL]
  rw[evE_like ht e (fun x hx=>h x (by simp only[colsL];exact List.mem_append_left _ hx)),evL_like ht r (fun x hx=>h x (by simp only[colsL];exact List.mem_append_right _ hx))]
end
def Moves(tq:List Int)(a b:List Go.Ex.AV):Prop:=∀i,i<a.length→∃s:Int,tq[i]? = some s∧0≤s∧s<(b.length:Int)∧b[s.toNat]? = a[i]?
theorem mayHd_other{op sub:Int}{t:Ty}{v:Go.Ex.AV}{m c c':Int}(ho:op≠1):mayHd op sub t v m c=mayHd op sub t v m c':=by
 have:(op==1)=false:=by simpa using ho
 simp only[mayHd,this,cond_false]
theorem mayHd_col{op sub s:Int}{t:Ty}{v:Go.Ex.AV}{m c c':Int}(ho:op=1)(h:mayHd op sub t v m c=true)(h0:0≤s)(h1:s<c'):(0≤sub∧sub<c)∧mayHd op s t v m c'=true:=by
 subst ho
 have e:((1:Int)==1)=true:=rfl
 simp only[mayHd,e,cond_true]at h ⊢
 have d0:decide (s≥0)=true:=decide_eq_true h0
 have d1:decide (s<c')=true:=decide_eq_true h1
 rw[d0,d1]
 cases hm:(m==0)<;>simp only[hm,cond_true,cond_false]at h ⊢
 ·cases h
 ·cases hs:decide (sub≥0)<;>simp only[hs,cond_true,cond_false]at h ⊢
  ·cases h
  ·cases hl:decide (sub<c)<;>simp only[hl,cond_true,cond_false]at h ⊢
   ·cases h
   ·exact⟨⟨of_decide_eq_true hs,of_decide_eq_true hl⟩,h⟩
mutual
theorem shift_all{tq:List Int}{row row':List Go.Ex.AV}(hm:Moves tq row row'):∀e:EX,mayE row.length e=true→∃e',shiftE tq e=some e'∧mayE row'.length e'=true∧nodes e'=nodes e∧deep e'=deep e∧typedE (typesV row') e'=typedE (typesV row) e∧evE row' e'=evE row e
 | .mk op sub t v args,h=>by
   simp only[mayE,Bool.and_eq_true]at h
   obtain⟨l',g1,g2,g3,g4,g5,g6,g7⟩:=shiftL_all hm args h.2
   have hlen:((cellsL l').length:Int)=((cellsL args).length:Int):=by rw[cellsL_len,cellsL_len,g2]
   by_cases ho:op=1
   ·have hb:0≤sub∧sub<(row.length:Int):=(mayHd_col (s:=0) (c':=1) ho h.1 (by omega) (by omega)).1
    obtain⟨s,k1,k2,k3,k4⟩:=hm sub.toNat (by omega)
    have hh:=(mayHd_col ho h.1 k2 k3).2
    have hty:(typesV row').getD s.toNat ⟨0,0⟩=(typesV row).getD sub.toNat ⟨0,0⟩:=by
       simp only[List.getD_eq_getElem?_getD,typesV,List.getElem?_map,k4]
    have hT:typedE (typesV row') (.mk op s t v l')=typedE (typesV row) (.mk op sub t v args):=by
       simp only[typedE,g6]
       cases typedL (typesV row) args with
       |none=>rfl
       |some l=>simp only[typedN,if_pos ho,hty]
    refine⟨.mk op s t v l',?_,?_,?_,?_,hT,?_⟩
    ·have hn:newSub tq op sub=some s:=by
      have:¬sub<0:=by omega
      have k2':¬s<0:=by omega
      simp only[newSub,if_pos ho,if_neg this,k1,if_neg k2']
     simp only[shiftE,hn,g1]
    ·simp only[mayE,Bool.and_eq_true,hlen];exact⟨hh,g3⟩
    ·simp only[nodes,g4]
    ·simp only[deep,g5]
    ·simp only[evE,hT,g7]
     unfold evN
     simp only[if_pos ho,k4]
   ·have hT:typedE (typesV row') (.mk op sub t v l')=typedE (typesV row) (.mk op sub t v args):=by
       simp only[typedE,g6]
       cases typedL (typesV row) args with
       |none=>rfl
       |some l=>simp only[typedN,if_neg ho]
    refine⟨.mk op sub t v l',?_,?_,?_,?_,hT,?_⟩
    ·have hn:newSub tq op sub=some sub:=by simp only[newSub,if_neg ho]
     simp only[shiftE,hn,g1]
    ·simp only[mayE,Bool.and_eq_true,hlen];exact⟨by rw[mayHd_other ho];exact h.1,g3⟩
    ·simp only[nodes,g4]
    ·simp only[deep,g5]
    ·simp only[evE,hT,g7]
     unfold evN
     simp only[if_neg ho]
theorem shiftL_all{tq:List Int}{row row':List Go.Ex.AV}(hm:Moves tq row row'):∀l:List EX,mayL row.length l=true→∃l',shiftL tq l=some l'∧l'.length=l.length∧mayL row'.length l'=true∧(∀n,nodesL n l'=nodesL n l)∧(∀n,deepL n l'=deepL n l)∧typedL (typesV row') l'=typedL (typesV row) l∧evL row' l'=evL row l
 |[],_=>⟨[],by simp only[shiftL],rfl,by simp only[mayL],fun _=>rfl,fun _=>rfl,by simp only[typedL],by simp only[evL]⟩
 |e::r,h=>by
  simp only[mayL,Bool.and_eq_true]at h
  obtain⟨e',a1,a2,a3,a4,a5,a6⟩:=shift_all hm e h.1
  obtain⟨l',g1,g2,g3,g4,g5,g6,g7⟩:=shiftL_all hm r h.2
  refine⟨e'::l',by simp only[shiftL,a1,g1],by simp only[List.length_cons,g2],by simp only[mayL,a2,g3,Bool.and_self],fun n=>?_,fun n=>?_,?_,?_⟩
  ·simp only[nodesL,a3,g4]
  ·simp only[deepL,a4,g5]
  ·simp only[typedL,a5,g6]
  ·simp only[evL,a6,g7]
end
theorem eval_like{row row':List Go.Ex.AV}{e:EX}(ht:typesV row=typesV row')(hb:row.any badV=false)(hb':row'.any badV=false)(h:∀x∈colsE e,row[x.toNat]? = row'[x.toNat]?):evalE row' e=evalE row e:=by
 unfold evalE
 rw[←ht,hb,hb',evE_like ht e h]
theorem eval_moved{tq:List Int}{row row':List Go.Ex.AV}{e:EX}(hm:Moves tq row row')(hb:row.any badV=false)(hb':row'.any badV=false)(ht:(typesV row).any badT=false)(ht':(typesV row').any badT=false)(hc:mayE row.length e=true):∃e',shiftE tq e=some e'∧evalE row' e'=evalE row e:=by
 obtain⟨e',h1,h2,h3,h4,h5,h6⟩:=shift_all hm e hc
 refine⟨e',h1,?_⟩
 have h2':mayE (typesV row').length e'=mayE (typesV row).length e:=by rw[typesV_len,typesV_len,h2,hc]
 unfold evalE checkE
 rw[h3,h4,h5,h6,hb,hb',ht,ht',h2']
end Go.Proofs.Tryz
namespace Go.Proofs.Tryz
open Go Go.Dm Go.Ex
set_option maxRecDepth 100000
variable {gl:Nat→Option Obj}
def idxI:List Int→Int→Int→Int
 |[],_,_=>-1
 |a::r,x,i=>if x=a then i else idxI r x (i+1)
theorem idxI_mem{x:Int}:∀{l:List Int} {i:Int},0≤i→(0≤idxI l x i↔x∈l)
 |[],i,_=>by simp[idxI]
 |a::r,i,h=>by
  unfold idxI
  by_cases e:x=a
  ·simp[e,h]
  ·rw[if_neg e,idxI_mem (by omega)];simp[e]
theorem encI_at{l:List Int}{i:Nat}(h:i<l.length):(encI l)[((i:Nat):Int).toNat]? = some [.v (.int .i64 l[i])]:=by simp[encI,h]
def st_1004(l:List Int)(x:Int)(i:Nat):St:={tm:=[(0,.d (.sl (encI l))),(1,.d (.v (.int .i64 x))),(4,.d (.v (.int .i64 0))),(7,.d (.v (.int .i64 ((encI l).length:Int)))),(8,.d (.v (.int .i64 (i:Int))))],hp:=[],kn:=[],gd:=[]}
def inv_1004(l:List Int)(x:Int)(m:Nat)(i:Nat):Prop:=(i≤l.length∧m=l.length-i)∧idxI l x 0=idxI (l.drop i) x i
def fx_1004(l:List Int)(x:Int):Fi:={fi24 with lx:=[(2,{X:=Nat,sh:=st_1004 l x,P:=fun _=>inv_1004 l x})]}
theorem vc1004(l:List Int)(x:Int)(Q:KT):vc E_0 C_0 noI (fx_1004 l x) (f24.body.getD .skip) f24.results.toList [.d (.sl (encI l)),.d (.v (.int .i64 x))] Q=(Zds l fun es=>∃(x0:Nat),({tm:=[(0,.d (.sl (List.map (fun(n:Int)=>[D.i n]) l))),(1,.i x),(4,.i 0),(7,.i (↑es.length:Int)),(8,.i 0)],hp:=[],kn:=[],gd:=[]:St}={tm:=[(0,.d (.sl (List.map (fun(n:Int)=>[D.i n]) l))),(1,.i x),(4,.i 0),(7,.i (↑(List.map (fun(n:Int)=>[D.i n]) l).length:Int)),(8,.i (↑x0:Int))],hp:=[],kn:=[],gd:=[]:St}∧∃(n:Nat),inv_1004 l x n x0)∧∀(n:Nat) (x_1:Nat),inv_1004 l x n x_1→(decide ((↑x_1:Int)<(↑(List.map (fun(n:Int)=>[D.i n]) l).length:Int))=true→Zds l fun es=>Zcf x_1 es fun cells=>cells.length=1∧∃(n_1:Int),cut 0 1 cells=some [D.i n_1]∧((x==n_1)=true→Q [.d (.i (↑x_1:Int))] [])∧((x==n_1)=false→Zee n fun m x'=>{tm:=[(0,.d (.sl (List.map (fun(n:Int)=>[D.i n]) l))),(1,.i x),(4,.i 0),(7,.i (↑(List.map (fun(n:Int)=>[D.i n]) l).length:Int)),(8,.i (IntKind.i64.wrap ((↑x_1:Int)+1)))],hp:=[],kn:=[],gd:=[]:St}={tm:=[(0,.d (.sl (List.map (fun(n:Int)=>[D.i n]) l))),(1,.i x),(4,.i 0),(7,.i (↑(List.map (fun(n:Int)=>[D.i n]) l).length:Int)),(8,.i (↑x':Int))],hp:=[],kn:=[],gd:=[]:St}∧inv_1004 l x m x'))∧(decide ((↑x_1:Int)<(↑(List.map (fun(n:Int)=>[D.i n]) l).length:Int))=false→Zdp Q)):=by kernel_rfl
theorem ct1004(l:List Int)(x:Int)(hl:l.length≤4398046511104):Ct prog gl 24 [.d (.sl (encI l)),.d (.v (.int .i64 x))] (gives [.d (.v (.int .i64 (idxI l x 0)))]):=by
 refine ct_of_vc E_ok C_0_ok ioK_no it_ok mixed (fn:=f24) (body:=f24.body.getD .skip) (by kernel_rfl) (by kernel_rfl) (by kernel_rfl) (fi:=fx_1004 l x) (by kernel_rfl) (by kernel_rfl) ⟨_,_,rfl,rfl⟩ ?_
 rw[vc1004];dsimp -eta -iota -proj only[Zds,Zej,Zcf,Zee,Zdt,Zdp,Zdn]
 refine⟨_,rfl,(0:Nat),⟨rfl,l.length,⟨Nat.zero_le _,rfl⟩,by simp⟩,fun m (i:Nat) hi=>⟨fun hlt=>?_,fun hge=>?_⟩⟩
 ·have hlt:i<l.length:=by simpa using hlt
  have hm:=hi.1.2
  have hd:l.drop i=l[i]::l.drop (i+1):=List.drop_eq_getElem_cons hlt
  refine⟨_,rfl,⟨by omega,by rw[List.length_map];omega⟩,_,encI_at hlt,rfl,l[i],rfl,fun he=>?_,fun he=>⟨l.length-(i+1),i+1,by omega,by rw[wrap_next (by omega)],⟨hlt,rfl⟩,?_⟩⟩
  ·have he:x=l[i]:=by simpa using he
   have h2:=hi.2
   rw[hd]at h2
   have h3:idxI (l[i]::l.drop (i+1)) x i=i:=by rw[idxI];exact if_pos he
   rw[h2,h3];exact⟨rfl,rfl⟩
  ·have he:¬x=l[i]:=by simpa using he
   have h2:=hi.2
   have h3:idxI (l[i]::l.drop (i+1)) x i=idxI (l.drop (i+1)) x (i+1):=by rw[idxI];exact if_neg he
   rw[h2,hd,h3];simp
 ·have hge:¬i<l.length:=by simpa using hge
  have h2:=hi.2
  rw[List.drop_eq_nil_of_le (by omega)]at h2
  rw[h2];exact⟨rfl,rfl⟩
def c_1004(a:List R)(K:KT):Prop:=match a with
 |[.d (.sl y),.d (.v (.int .i64 x))]=>∃l:List Int,y=encI l∧l.length≤4398046511104∧K [.d (.v (.int .i64 (idxI l x 0)))] []
 |_=>False
theorem c_1004_ok(a:List R)(K:KT)(h:c_1004 a K):Ct prog gl 24 a K:=by
 unfold c_1004 at h
 split at h
 ·obtain⟨l,rfl,h1,h2⟩:=h
  exact(ct1004 l _ h1).gives h2
 ·exact h.elim
def C_i1:CallT:=addC C_0 24 c_1004
theorem C_i1_ok:CallsOk prog gl C_i1:=addC_ok C_0_ok c_1004_ok
theorem vc1003(l:List Int)(x:Int)(Q:KT):vc E_0 C_i1 noI fi9 (f9.body.getD .skip) f9.results.toList [.d (.sl (encI l)),.d (.v (.int .i64 x))] Q=(∃(l_1:List Int),List.map (fun(n:Int)=>[D.i n]) l=List.map (fun(n:Int)=>[D.i n]) l_1∧l_1.length≤4398046511104∧Q [.d (.v (.bool (decide (idxI l_1 x (0:Int)≥0))))] []):=by kernel_rfl
theorem ct1003(l:List Int)(x:Int)(hl:l.length≤4398046511104):Ct prog gl 9 [.d (.sl (encI l)),.d (.v (.int .i64 x))] (gives [.d (.v (.bool (decide (x∈l))))]):=by
 refine ctv C_i1_ok f9 fi9 ⟨_,_,rfl,rfl⟩ ?_
 rw[vc1003]
 refine⟨l,rfl,hl,?_⟩
 have:decide (idxI l x 0≥0)=decide (x∈l):=decide_eq_decide.2 (idxI_mem (Int.le_refl 0))
 rw[this];exact⟨rfl,rfl⟩
def c_1003(a:List R)(K:KT):Prop:=match a with
 |[.d (.sl y),.d (.v (.int .i64 x))]=>∃l:List Int,y=encI l∧l.length≤4398046511104∧K [.d (.v (.bool (decide (x∈l))))] []
 |_=>False
theorem c_1003_ok(a:List R)(K:KT)(h:c_1003 a K):Ct prog gl 9 a K:=by
 unfold c_1003 at h
 split at h
 ·obtain⟨l,rfl,h1,h2⟩:=h
  exact(ct1003 l _ h1).gives h2
 ·exact h.elim
def E_k:Env:={E_0 with con:=true}
theorem E_k_ok:EnvOk prog E_k:=⟨E_ok.te⟩
theorem vc1002(l:List Go.Ex.AV)(Q:KT):vcO E_k C_0 noI fi7 (f7.body.getD .skip) f7.results.toList [.d (.sl (l.map Go.Ex.AV.cs))] Q=(∀(b:Bool),(b=true→List.map AV.cs l=[])→(b=true→Q [.d (.sl [])] [])∧(b=false→Zbt l fun es=>(∀(c:List D),c∈es→c.length=5)∧(25:Nat)=(25:Nat)∧(5:Nat)=(5:Nat)∧(↑(Nat.add (0:Nat) es.length):Int)*(↑(48:Nat):Int)≤140737488355328∧Q [.lst (25:Nat) (5:Nat) ([]++es)] [])):=by kernel_rfl
theorem val_all(l:List Go.Ex.AV):∀c∈l.map Go.Ex.AV.cs,c.length=5:=by
 intro c hc
 obtain⟨v,_,rfl⟩:=List.mem_map.1 hc
 rfl
theorem ct1002(l:List Go.Ex.AV)(hne:l≠[])(hl:l.length≤1400000000000):Ct prog gl 7 [.d (.sl (l.map Go.Ex.AV.cs))] (gives [.lst 25 5 (l.map Go.Ex.AV.cs)]):=by
 refine ct_of_vcO E_k_ok C_0_ok ioK_no (fun _ _ _ h=>h.elim) mixed (fn:=f7) (body:=f7.body.getD .skip) (by kernel_rfl) (by kernel_rfl) (by kernel_rfl) (fi:=fi7) (by kernel_rfl) (by kernel_rfl) ⟨_,_,rfl,rfl⟩ ?_
 rw[vc1002];dsimp -eta -iota -proj only[Zbt,Zej]
 refine fun b hb=>⟨fun h=>(hne (by simpa using hb h)).elim,fun _=>⟨_,rfl,val_all l,rfl,rfl,?_,⟨rfl,rfl⟩⟩⟩
 show((0+(l.map Go.Ex.AV.cs).length:Nat):Int)*((48:Nat):Int)≤_
 rw[List.length_map];omega
def c_1002(a:List R)(K:KT):Prop:=match a with
 |[.d (.sl x)]=>∃l:List Go.Ex.AV,x=l.map Go.Ex.AV.cs∧l≠[]∧l.length≤1400000000000∧K [.lst 25 5 (l.map Go.Ex.AV.cs)] []
 |_=>False
theorem c_1002_ok(a:List R)(K:KT)(h:c_1002 a K):Ct prog gl 7 a K:=by
 unfold c_1002 at h
 split at h
 ·obtain⟨l,rfl,h1,h2,h3⟩:=h
  exact(ct1002 l h1 h2).gives h3
 ·exact h.elim
end Go.Proofs.Tryz
namespace Go.Dm
variable {P:Program} {E:Env}
variable {B0:Nat} {bx:List Nat} {W0:World} {ok0:Nat→Prop} {Z:Zr} {N:Nat}
variable {ok:Nat→Prop} {φ:Nat→Value} {s:St} {a:Act} {w:World}
end Go.Dm
namespace Go.Ex
open Go.Dm
theorem wrap64_of{n:Int}(h0:-9223372036854775808≤n)(h1:n<9223372036854775808):IntKind.i64.wrap n=n:=by
 simp[IntKind.wrap,IntKind.signed,IntKind.bits]
 split<;>omega
end Go.Ex
namespace Go.Proofs.Tryz
open Go Go.Dm Go.Ex
set_option maxRecDepth 100000
variable {gl:Nat→Option Obj}
theorem evalE_ne{row:List Go.Ex.AV}{e:EX}(h:(evalE row e).2≠140):(typesV row).any badT=false∧mayE row.length e=true∧(row.any badV=false∨(checkE (typesV row) e).2=21):=by
 have hk:(checkE (typesV row) e).2≠140:=fun hk=>h (by unfold evalE;rw[hk];rfl)
 cases hc:(bif bif bif (typesV row).any badT then true else decide (nodes e>256)then true else decide (deep e>24)then true else !mayE (typesV row).length e)with
 |true=>exact(hk (by unfold checkE;rw[hc];rfl)).elim
 |false=>
  have h1:(typesV row).any badT=false:=by
   cases h1:(typesV row).any badT with
   |false=>rfl
   |true=>rw[h1]at hc;simp at hc
  have h2:mayE row.length e=true:=by
   rw[typesV_len]at hc
   cases h2:mayE row.length e with
   |true=>rfl
   |false=>rw[h2]at hc;revert hc;cases(bif bif (typesV row).any badT then true else decide (nodes e>256)then true else decide (deep e>24))<;>simp
  refine⟨h1,h2,?_⟩
  cases ht:(typedE (typesV row) e).2 with
  |false=>right;unfold checkE;rw[hc,ht];rfl
  |true=>
   left
   have h0:(checkE (typesV row) e).2=0:=by unfold checkE;rw[hc,ht];rfl
   cases hb:row.any badV with
   |false=>rfl
   |true=>exact(h (by unfold evalE;rw[h0,hb];rfl)).elim
theorem eval_like2{row row':List Go.Ex.AV}{e:EX}(ht:typesV row=typesV row')(h140:(evalE row e).2≠140)(hb':row.any badV=false→row'.any badV=false)(h:∀x∈colsE e,row[x.toNat]? = row'[x.toNat]?):evalE row' e=evalE row e:=by
 rcases evalE_ne h140 with⟨_,_,hb|h21⟩
 ·exact eval_like ht hb (hb' hb) h
 ·unfold evalE;rw[←ht,h21];rfl
theorem eval_moved2{tq:List Int}{row row':List Go.Ex.AV}{e:EX}(hm:Moves tq row row')(h140:(evalE row e).2≠140)(hb':row.any badV=false→row'.any badV=false)(ht':(typesV row').any badT=false):∃e',shiftE tq e=some e'∧evalE row' e'=evalE row e:=by
 obtain⟨ht,hc,hb⟩:=evalE_ne h140
 rcases hb with hb|h21
 ·exact eval_moved hm hb (hb' hb) ht ht' hc
 ·obtain⟨e',h1,h2,h3,h4,h5,h6⟩:=shift_all hm e hc
  refine⟨e',h1,?_⟩
  have h2':mayE (typesV row').length e'=mayE (typesV row).length e:=by rw[typesV_len,typesV_len,h2,hc]
  have:checkE (typesV row') e'=checkE (typesV row) e:=by unfold checkE;rw[h3,h4,h5,h2',ht,ht']
  unfold evalE;rw[this,h21];rfl
mutual
theorem cols_in{c:Int}:∀{e:EX},mayE c e=true→∀x∈colsE e,0≤x∧x<c
 | .mk op sub t v args,h,x,hx=>by
   simp only[mayE,Bool.and_eq_true]at h
   simp only[colsE,List.mem_append]at hx
   rcases hx with hx|hx
   ·by_cases ho:op=1
    ·rw[if_pos ho,List.mem_singleton]at hx
     subst hx
     exact(mayHd_col (s:=0) (c':=1) ho h.1 (by omega) (by omega)).1
    ·rw[if_neg ho]at hx;cases hx
   ·exact colsL_in h.2 x hx
theorem colsL_in{c:Int}:∀{l:List EX},mayL c l=true→∀x∈colsL l,0≤x∧x<c
 |[],_,x,hx=>by simp[colsL]at hx
 |e::r,h,x,hx=>by
  simp only[mayL,Bool.and_eq_true]at h
  simp only[colsL,List.mem_append]at hx
  rcases hx with hx|hx
  ·exact cols_in h.1 x hx
  ·exact colsL_in h.2 x hx
end
theorem any_badV{l:List Go.Ex.AV}:l.any badV=false↔∀v∈l,badV v=false:=by
 simp[List.any_eq_false]
theorem any_badT{l:List Go.Ex.AV}:(typesV l).any badT=false↔∀v∈l,badT v.t=false:=by
 simp[List.any_eq_false,typesV]
theorem ofI_good{k:Nat}(h:k≤3):badV (ofI (k:Int))=false∧badT (ofI (k:Int)).t=false∧in64 (ofI (k:Int)).n:=by
 refine⟨?_,rfl,by simp only[ofI,in64];omega⟩
 rcases(by omega:k=0∨k=1∨k=2∨k=3)with rfl|rfl|rfl|rfl<;>rfl
def tqE(n m:Nat)(j:Nat):List Int:=(List.range j).map fun(i:Nat)=>(n:Int)+m-1-(i:Int)
theorem tqE_len(n m j:Nat):(tqE n m j).length=j:=by simp[tqE]
theorem tqE_succ(n m j:Nat):tqE n m (j+1)=tqE n m j++[(n:Int)+m-1-(j:Int)]:=by simp[tqE,List.range_succ]
theorem tqE_in{n m j:Nat}(hn:n≤3)(hm:m≤1000000000)(hj:j≤m):∀x∈tqE n m j,in64 x:=by
 intro x hx
 obtain⟨i,hi,rfl⟩:=List.mem_map.1 hx
 have:=List.mem_range.1 hi
 simp only[in64];omega
theorem moves_rev(hd row:List Go.Ex.AV):Moves (tqE hd.length row.length row.length) row (hd++row.reverse):=by
 intro i hi
 refine⟨(hd.length:Int)+row.length-1-(i:Int),?_,by omega,by simp;omega,?_⟩
 ·simp[tqE,hi]
 ·have:((hd.length:Int)+row.length-1-(i:Int)).toNat=hd.length+(row.length-1-i):=by omega
  rw[this,List.getElem?_append_right (by omega),Nat.add_sub_cancel_left,List.getElem?_reverse (by omega)]
  congr 1;omega
def c_25m(a:List R)(K:KT):Prop:=match a with
 |[.agg x,.d (.sl y)]=>∃(e:EX) (tq:List Int),x=cells e∧y=encI tq∧fits e∧tq.length≤17592186043904∧∃(op sub:Int) (t:Ty) (v:Go.Ex.AV) (args:List EX),shiftE tq e=some (.mk op sub t v args)∧K [.agg (encX op sub t v (cellsL args)),.d (.v (.int .i64 0))] []
 |_=>False
theorem c_25m_ok(a:List R)(K:KT)(h:c_25m a K):Ct prog gl 11 a K:=by
 unfold c_25m at h
 split at h
 ·obtain⟨e,tq,rfl,rfl,h1,h2,op,sub,t,v,args,h3,h4⟩:=h
  refine(ct25 (size e+1) e tq (Nat.lt_succ_self _) h1 h2).gives ?_
  rw[h3]
  simp only[encO,cells_mk]
  exact h4
 ·exact h.elim
theorem newSub_in'{tq:List Int}{op sub s:Int}(hs:in64 sub)(ht:∀x∈tq,in64 x)(h:newSub tq op sub=some s):in64 s:=by
 unfold newSub at h
 split at h
 ·split at h
  ·cases h
  ·split at h
   ·cases h
   ·rename_i x hx
    split at h
    ·cases h
    ·simp only[Option.some.injEq]at h
     subst h
     exact ht _ (List.mem_of_getElem? hx)
 ·simp only[Option.some.injEq]at h
  subst h;exact hs
mutual
theorem fits_shift'{tq:List Int}(ht:∀x∈tq,in64 x):∀{e r:EX},fits e→shiftE tq e=some r→fits r
 | .mk op sub t v args,r,hf,h=>by
   obtain⟨⟨u1,u2,u3,u4,u5,u6,u7⟩,u8,u9⟩:=fits_mk hf
   simp only[shiftE]at h
   rcases hs:newSub tq op sub with _|s
   ·rw[hs]at h;cases h
   ·rw[hs]at h
    rcases hl:shiftL tq args with _|l
    ·rw[hl]at h;cases h
    ·rw[hl]at h
     simp only[Option.some.injEq]at h
     subst h
     obtain⟨g1,g2⟩:=fitsL_shift' ht u9 hl
     simp only[fits]
     exact⟨⟨u1,newSub_in' u2 ht hs,u3,u4,u5,u6,u7⟩,by omega,g1⟩
theorem fitsL_shift'{tq:List Int}(ht:∀x∈tq,in64 x):∀{l r:List EX},fitsL l→shiftL tq l=some r→fitsL r∧r.length=l.length
 |[],r,_,h=>by
  simp only[shiftL,Option.some.injEq]at h
  subst h
  exact⟨by simp only[fitsL],rfl⟩
 |a::l,r,hf,h=>by
  simp only[fitsL]at hf
  simp only[shiftL]at h
  rcases ha:shiftE tq a with _|x
  ·rw[ha]at h;cases h
  ·rw[ha]at h
   rcases hl:shiftL tq l with _|q
   ·rw[hl]at h;cases h
   ·rw[hl]at h
    simp only[Option.some.injEq]at h
    subst h
    obtain⟨g1,g2⟩:=fitsL_shift' ht hf.2 hl
    exact⟨by simp only[fitsL];exact⟨fits_shift' ht hf.1 ha,g1⟩,by simp[g2]⟩
end
end Go.Proofs.Tryz
namespace Go.Proofs.Tryz
open Go Go.Dm Go.Ex
set_option maxRecDepth 100000
variable {gl:Nat→Option Obj}
def C_mv:CallT:=addC (addC (addC (addC (addC C_t17v 6 c_177) 7 c_1002) 9 c_1003) 10 c_65) 11 c_25m
theorem C_mv_ok(G:GlOk gl):CallsOk prog gl C_mv:=addC_ok (addC_ok (addC_ok (addC_ok (addC_ok (C_t17v_ok G) c_177_ok) c_1002_ok) c_1003_ok) c_65_ok) c_25m_ok
def bx_mv(op sub:Int)(t:Ty)(v:Go.Ex.AV)(args:List EX)(w:Go.Ex.AV):List (Nat×B):=[(4,.box [.d (.v (.int .i64 op)),.d (.v (.int .i64 sub)),.d (.v (.int .i64 t.k)),.d (.v (.int .i64 t.sc)),.d (.v (.int .i64 v.t.k)),.d (.v (.int .i64 v.t.sc)),.d (.v (.bool v.nul)),.d (.v (.int .i64 v.n)),.d (.v (.string v.s)),.d (.sl (cellsL args))]),(9,.box [.d (.v (.int .i64 w.t.k)),.d (.v (.int .i64 w.t.sc)),.d (.v (.bool w.nul)),.d (.v (.int .i64 w.n)),.d (.v (.string w.s))])]
structure MX where
 w:Go.Ex.AV
 f:Int
 L:List Int
 a:Int
 more:List Go.Ex.AV
 i:Nat
def st_mva(op sub:Int)(t:Ty)(v:Go.Ex.AV)(args:List EX)(row other:List Go.Ex.AV)(x:MX):St:={tm:=[(1,.d (.sl (row.map Go.Ex.AV.cs))),(2,.d (.v (.int .u8 x.a))),(3,.d (.sl (other.map Go.Ex.AV.cs))),(4,.ref 4 0),(8,.d (.v (.bool false))),(9,.ref 9 0),(10,.d (.v (.int .i64 x.f))),(11,.d (.sl (intsD x.L))),(12,.own 37),(39,.d (.v (.int .i64 ((row.map Go.Ex.AV.cs).length:Int)))),(40,.d (.v (.int .i64 (x.i:Int))))],hp:=bx_mv op sub t v args x.w++[(37,.lst 25 5 (x.more.map Go.Ex.AV.cs))],kn:=[],gd:=[]}
def inv_mva(row other:List Go.Ex.AV)(x0:MX)(m:Nat)(x:MX):Prop:=(x.i≤row.length∧m=row.length-x.i)∧(x.w=x0.w∧x.f=x0.f∧x.L=x0.L∧x.a=x0.a)∧x.more.length=row.length∧typesV x.more=typesV row∧(∀j:Nat,(j:Int)∈x.L→x.more[j]? = row[j]?)∧(∀v∈x.more,v∈row∨(v∈other∧badV v=false))
structure MY where
 w:Go.Ex.AV
 f:Int
 w2:Go.Ex.AV
 a:Int
 more:List Go.Ex.AV
 mv:List Go.Ex.AV
 i:Nat
def st_mvb(op sub:Int)(t:Ty)(v:Go.Ex.AV)(args:List EX)(row:List Go.Ex.AV)(y:MY):St:={tm:=[(1,.d (.sl (row.map Go.Ex.AV.cs))),(4,.ref 4 0),(8,.d (.v (.bool false))),(9,.ref 9 0),(10,.d (.v (.int .i64 y.f))),(16,.d (.v (.int .i64 (IntKind.i64.wrap (y.a.tmod 4))))),(17,.nil),(18,.own 100),(102,.d (.v (.int .i64 ((y.mv.map Go.Ex.AV.cs).length:Int)))),(103,.d (.v (.int .i64 (y.i:Int))))],hp:=bx_mv op sub t v args y.w++[(14,.box [.d (.v (.int .i64 y.w2.t.k)),.d (.v (.int .i64 y.w2.t.sc)),.d (.v (.bool y.w2.nul)),.d (.v (.int .i64 y.w2.n)),.d (.v (.string y.w2.s))]),(37,.fro 5 (y.more.map Go.Ex.AV.cs)),(100,.lst 25 5 (y.mv.map Go.Ex.AV.cs))],kn:=[],gd:=[]}
def inv_mvb(y0:MY)(m:Nat)(y:MY):Prop:=(y.i≤y.mv.length∧m=y.mv.length-y.i)∧(y.w=y0.w∧y.f=y0.f∧y.w2=y0.w2∧y.a=y0.a∧y.more=y0.more)∧y.mv.length=y0.mv.length∧(∀v∈y.mv.take y.i,∃k:Nat,k≤3∧v=ofI k)
structure MZ where
 y:MY
 tq:List Int
 j:Nat
def st_mvc(op sub:Int)(t:Ty)(v:Go.Ex.AV)(args:List EX)(row:List Go.Ex.AV)(z:MZ):St:={tm:=[(1,.d (.sl (row.map Go.Ex.AV.cs))),(4,.ref 4 0),(8,.d (.v (.bool false))),(9,.ref 9 0),(10,.d (.v (.int .i64 z.y.f))),(16,.d (.v (.int .i64 (IntKind.i64.wrap (z.y.a.tmod 4))))),(17,.own 50017),(18,.own 100),(113,.d (.v (.int .i64 ((row.map Go.Ex.AV.cs).length:Int)))),(114,.d (.v (.int .i64 (z.j:Int))))],hp:=bx_mv op sub t v args z.y.w++[(14,.box [.d (.v (.int .i64 z.y.w2.t.k)),.d (.v (.int .i64 z.y.w2.t.sc)),.d (.v (.bool z.y.w2.nul)),.d (.v (.int .i64 z.y.w2.n)),.d (.v (.string z.y.w2.s))]),(37,.fro 5 (z.y.more.map Go.Ex.AV.cs)),(100,.lst 25 5 (z.y.mv.map Go.Ex.AV.cs)),(50017,.lst 3 1 (encI z.tq))],kn:=[],gd:=[]}
def inv_mvc(row:List Go.Ex.AV)(z0:MZ)(m:Nat)(z:MZ):Prop:=(z.j≤row.length∧m=row.length-z.j)∧(z.y.w=z0.y.w∧z.y.f=z0.y.f∧z.y.w2=z0.y.w2∧z.y.a=z0.y.a∧z.y.more=z0.y.more)∧z.y.mv=z0.y.mv++row.reverse.take z.j∧z.tq=tqE z0.y.mv.length row.length z.j
def fx_1001(op sub:Int)(t:Ty)(v:Go.Ex.AV)(args:List EX)(row other:List Go.Ex.AV):Fi:={fi3 with lx:=[(9,{X:=MX,sh:=st_mva op sub t v args row other,P:=inv_mva row other}),(21,{X:=MY,sh:=st_mvb op sub t v args row,P:=inv_mvb}),(26,{X:=MZ,sh:=st_mvc op sub t v args row,P:=inv_mvc row})],cv:=[(26,[⟨none,17,50017,3,1⟩])]}
def Zc2(a0 a1:Int)(a2:Ty)(a3:Go.Ex.AV)(a4:List EX)(k:EX→(List AV)→Prop):Prop:=∃(e:EX),∃(row_1:List AV),Z7 a0 a1 a2 a3 a4 e (k e row_1)
def Zde(a0:EX)(a1:List AV)(k:AV→Int→Prop):Prop:=fits a0∧RowIn a1∧a1.length≤4398046511104∧∀(w:AV) (f:Int),evalE a1 a0=(w,f)→k w f
def Zd0(a0 a1:Int)(a2:Ty)(a3:Go.Ex.AV)(a4:List EX)(a5:List Go.Ex.AV)(a6:KT)(k:AV→Int→Prop):Prop:=(!true)=false→Zc2 a0 a1 a2 a3 a4 fun e row_1=>List.map AV.cs a5=List.map AV.cs row_1∧Zde e row_1 fun w f=>((f==140)=true→a6 [.d (.v (.bool true))] [])∧k w f
def Zdj(a0 a1 a2:Int)(a3:Ty)(a4:Go.Ex.AV)(a5:List EX)(k:(List Int)→Prop):Prop:=(a0==140)=false→∃(e:EX),∃(N:Nat),Zco a1 a2 a3 a4 a5 e (N≤(17592186044416:Nat)∧(∀(y:Int),y∈colsE e→0≤y∧y<(↑N:Int))∧∀(L:List Int),List.Pairwise (fun(x1 x2:Int)=>x1≤x2) L→(∀(y:Int),y∈L↔y∈colsE e)→L.length≤N→k L)
def Zbp(a0:List Go.Ex.AV)(a1:MX)(a2:List Go.Ex.AV)(a3 a4:Int)(a5:Ty)(a6:Go.Ex.AV)(a7:List EX):St:={tm:=[(1,.d (.sl (List.map AV.cs a0))),(2,.d (.v (.int .u8 a1.4))),(3,.d (.sl (List.map AV.cs a2))),(4,.ref 4 0),(8,.d (.v (.bool false))),(9,.ref 9 0),(10,.i a1.2),(11,.d (.sl (intsD a1.3))),(12,.own 37),(39,.i (↑(List.map AV.cs a0).length:Int)),(40,.i (↑a1.6:Int))],hp:=bx_mv a3 a4 a5 a6 a7 a1.1++[(37,.lst 25 5 (List.map AV.cs a1.5))],kn:=[],gd:=[]:St}
def Zcy(a0:List Go.Ex.AV)(a1:MX)(k:(List D)→Prop):Prop:=Zbt a0 fun es=>(0≤(↑a1.6:Int)∧(↑a1.6:Int)<(↑es.length:Int))∧∃(cells:List D),es[(↑a1.6:Int).toNat]? = some cells∧k cells
def Zd2(a0:List Go.Ex.AV)(a1:MX)(k:Int→Int→Prop):Prop:=Zcy a0 a1 fun cells=>Zbw cells (5:Nat) fun n_1 n_2=>k n_1 n_2
def Zdo(a0:List Go.Ex.AV)(a1:MX)(k:Int→Int→Bool→Int→ByteArray→Prop):Prop:=Zcy a0 a1 fun cells=>Zbg cells fun n_5 n_6 b n_7 b_1=>k n_5 n_6 b n_7 b_1
def Zk(a0:List Go.Ex.AV)(a1:MX)(a2:Nat)(a3:List Go.Ex.AV)(a4 a5:Int)(a6:Ty)(a7:Go.Ex.AV)(a8:List EX)(a9:MX):Prop:=Zdo a0 a1 fun n_8 n_9 b n_10 b_2=>(0≤(↑a1.6:Int)∧(↑a1.6:Int)<(↑(List.map AV.cs a1.5).length:Int))∧(5:Nat)=(5:Nat)∧∃(cells:List D),(List.map AV.cs a1.5)[(↑a1.6:Int).toNat]? = some cells∧∃(cells':List D),over (0:Nat) (Zdq n_8 n_9 b n_10 b_2) cells=some cells'∧∃(m:Nat),∃(x':MX),m<a2∧{tm:=[(1,.d (.sl (List.map AV.cs a3))),(2,.d (.v (.int .u8 a1.4))),(3,.d (.sl (List.map AV.cs a0))),(4,.ref 4 0),(8,.d (.v (.bool false))),(9,.ref 9 0),(10,.i a1.2),(11,.d (.sl (intsD a1.3))),(12,.own 37),(39,.i (↑(List.map AV.cs a3).length:Int)),(40,.i (IntKind.i64.wrap ((↑a1.6:Int)+1)))],hp:=[(4,.box [.i a4,.i a5,.i a6.1,.i a6.2,.i a7.1.1,.i a7.1.2,.d (.v (.bool a7.2)),.i a7.3,.d (.v (.string a7.4)),.d (.sl (cellsL a8))]),(9,.box [.i a1.1.1.1,.i a1.1.1.2,.d (.v (.bool a1.1.2)),.i a1.1.3,.d (.v (.string a1.1.4))]),(37,.lst 25 5 ((List.map AV.cs a1.5).set (↑a1.6:Int).toNat cells'))],kn:=[],gd:=[]:St}=(Zbp a3 x' a0 a4 a5 a6 a7 a8)∧inv_mva a3 a0 a9 m x'
def Zbq(a0:Nat)(a1:List Go.Ex.AV)(a2:MX)(a3:List Go.Ex.AV)(a4 a5:Int)(a6:Ty)(a7:Go.Ex.AV)(a8:List EX)(a9:MX):Prop:=∃(m:Nat),∃(x':MX),m<a0∧{tm:=[(1,.d (.sl (List.map AV.cs a1))),(2,.d (.v (.int .u8 a2.4))),(3,.d (.sl (List.map AV.cs a3))),(4,.ref 4 0),(8,.d (.v (.bool false))),(9,.ref 9 0),(10,.i a2.2),(11,.d (.sl (intsD a2.3))),(12,.own 37),(39,.i (↑(List.map AV.cs a1).length:Int)),(40,.i (IntKind.i64.wrap ((↑a2.6:Int)+1)))],hp:=[(4,.box [.i a4,.i a5,.i a6.1,.i a6.2,.i a7.1.1,.i a7.1.2,.d (.v (.bool a7.2)),.i a7.3,.d (.v (.string a7.4)),.d (.sl (cellsL a8))]),(9,.box [.i a2.1.1.1,.i a2.1.1.2,.d (.v (.bool a2.1.2)),.i a2.1.3,.d (.v (.string a2.1.4))]),(37,.lst 25 5 (List.map AV.cs a2.5))],kn:=[],gd:=[]:St}=(Zbp a1 x' a3 a4 a5 a6 a7 a8)∧inv_mva a1 a3 a9 m x'
def Zp(a0:MX)(a1:List Go.Ex.AV)(a2:Nat)(a3:List Go.Ex.AV)(a4 a5:Int)(a6:Ty)(a7:Go.Ex.AV)(a8:List EX)(a9:MX):Prop:=∃(l:List Int),intsD a0.3=List.map (fun(n:Int)=>[D.i n]) l∧l.length≤4398046511104∧((!decide ((↑a0.6:Int)∈l))=true→Zk a1 a0 a2 a3 a4 a5 a6 a7 a8 a9)∧((!decide ((↑a0.6:Int)∈l))=false→Zbq a2 a3 a0 a1 a4 a5 a6 a7 a8 a9)
def Zq(a0:List Go.Ex.AV)(a1:MX)(a2:Nat)(a3:List Go.Ex.AV)(a4 a5:Int)(a6:Ty)(a7:Go.Ex.AV)(a8:List EX)(a9:MX):Prop:=(false=true→Zk a0 a1 a2 a3 a4 a5 a6 a7 a8 a9)∧(false=false→Zbq a2 a3 a1 a0 a4 a5 a6 a7 a8 a9)
def Zv(a0:List Go.Ex.AV)(a1:MX)(a2:Nat)(a3:List Go.Ex.AV)(a4 a5:Int)(a6:Ty)(a7:Go.Ex.AV)(a8:List EX)(a9:MX):Prop:=Zdo a0 a1 fun n_5 n_6 b n_7 b_1=>((s56_0 n_5 n_6 b n_7 b_1==0)=true→Zp a1 a0 a2 a3 a4 a5 a6 a7 a8 a9)∧((s56_0 n_5 n_6 b n_7 b_1==0) = !true→Zq a0 a1 a2 a3 a4 a5 a6 a7 a8 a9)
def Zw(a0:MX)(a1:List Go.Ex.AV)(a2:Nat)(a3:List Go.Ex.AV)(a4 a5:Int)(a6:Ty)(a7:Go.Ex.AV)(a8:List EX)(a9:MX):Prop:=(false=true→Zp a0 a1 a2 a3 a4 a5 a6 a7 a8 a9)∧(false = !true→Zq a1 a0 a2 a3 a4 a5 a6 a7 a8 a9)
def Zcq(a0:List Go.Ex.AV)(a1:MY)(a2 a3:Int)(a4:Ty)(a5:Go.Ex.AV)(a6:List EX):St:={tm:=[(1,.d (.sl (List.map AV.cs a0))),(4,.ref 4 0),(8,.d (.v (.bool false))),(9,.ref 9 0),(10,.i a1.2),(16,.i (IntKind.i64.wrap (a1.4.tmod (4:Int)))),(17,.nil),(18,.own 100),(102,.i (↑(List.map AV.cs a1.6).length:Int)),(103,.i (↑a1.7:Int))],hp:=bx_mv a2 a3 a4 a5 a6 a1.1++[(14,.box [.i a1.3.1.1,.i a1.3.1.2,.d (.v (.bool a1.3.2)),.i a1.3.3,.d (.v (.string a1.3.4))]),(37,.fro 5 (List.map AV.cs a1.5)),(100,.lst 25 5 (List.map AV.cs a1.6))],kn:=[],gd:=[]:St}
def Zc6(a0:MY)(k:(List D)→Prop):Prop:=decide ((↑a0.7:Int)<(↑(List.map AV.cs a0.6).length:Int))=true→(0≤(↑a0.7:Int)∧(↑a0.7:Int)<(↑(List.map AV.cs a0.6).length:Int))∧(5:Nat)=(5:Nat)∧∃(cells:List D),(List.map AV.cs a0.6)[(↑a0.7:Int).toNat]? = some cells∧∃(cells':List D),over (0:Nat) [D.i 2,D.i 0,D.v (.bool false),D.i (↑a0.7:Int),D.v (.string ⟨⟨[]⟩⟩)] cells=some cells'∧k cells'
def Zc7(a0:MY)(k:(List D)→Nat→Prop):Prop:=Zc6 a0 fun cells'=>∃(m:Nat),k cells' m
def Zc8(a0:MY)(k:(List D)→Nat→MY→Prop):Prop:=Zc7 a0 fun cells' m=>∃(x':MY),k cells' m x'
def Zc9(a0:MY)(a1:Nat)(k:(List D)→Nat→MY→Prop):Prop:=Zc8 a0 fun cells' m x'=>m<a1∧k cells' m x'
def Ze2(a0:MZ)(a1:List (List D)):List D:=[.i (IntKind.i64.wrap (IntKind.i64.wrap (IntKind.i64.wrap (IntKind.i64.wrap (a0.1.4.tmod (4:Int))+(↑a1.length:Int))-(1:Int))-(↑a0.3:Int)))]
def Zdz(a0:List D)(k:Int→Int→Bool→Int→ByteArray→Prop):Prop:=Zbg a0 fun n_1 n_2 b n_3 b_1=>(∀(c:List D),c∈[(Zdq n_1 n_2 b n_3 b_1)]→c.length=5)∧(25:Nat)=(25:Nat)∧(5:Nat)=(5:Nat)∧k n_1 n_2 b n_3 b_1
def Zo(a0:MX)(a1:List Go.Ex.AV)(a2 a3:Int)(a4:Ty)(a5:Go.Ex.AV)(a6:List EX)(a7:AV)(a8:KT):Prop:=(4:Int)≠(0:Int)∧(0:Int)≤IntKind.i64.wrap (a0.4.tmod (4:Int))∧IntKind.i64.wrap (a0.4.tmod (4:Int))≤IntKind.i64.wrap (a0.4.tmod (4:Int))∧IntKind.i64.wrap (a0.4.tmod (4:Int))*(↑(48:Nat):Int)≤140737488355328∧IntKind.i64.wrap (a0.4.tmod (4:Int))≤(140737488355328:Int)∧∃(x0:MY),({tm:=[(1,.d (.sl (List.map AV.cs a1))),(4,.ref 4 0),(8,.d (.v (.bool false))),(9,.ref 9 0),(10,.i a0.2),(16,.i (IntKind.i64.wrap (a0.4.tmod (4:Int)))),(17,.nil),(18,.own 100),(102,.i (↑(List.replicate (IntKind.i64.wrap (a0.4.tmod (4:Int))).toNat (Z3 (0:Int) (0:Int))).length:Int)),(103,.i 0)],hp:=[(4,.box [.i a2,.i a3,.i a4.1,.i a4.2,.i a5.1.1,.i a5.1.2,.d (.v (.bool a5.2)),.i a5.3,.d (.v (.string a5.4)),.d (.sl (cellsL a6))]),(9,.box [.i a0.1.1.1,.i a0.1.1.2,.d (.v (.bool a0.1.2)),.i a0.1.3,.d (.v (.string a0.1.4))]),(14,.box [.i a7.1.1,.i a7.1.2,.d (.v (.bool a7.2)),.i a7.3,.d (.v (.string a7.4))]),(37,.fro 5 (List.map AV.cs a0.5)),(100,.lst 25 5 (List.replicate (IntKind.i64.wrap (a0.4.tmod (4:Int))).toNat (Z3 (0:Int) (0:Int))))],kn:=[],gd:=[]:St}=(Zcq a1 x0 a2 a3 a4 a5 a6)∧∃(n:Nat),inv_mvb x0 n x0)∧∀(n:Nat) (x:MY),inv_mvb x0 n x→(Zc9 x n fun cells' m x'=>{tm:=[(1,.d (.sl (List.map AV.cs a1))),(4,.ref 4 0),(8,.d (.v (.bool false))),(9,.ref 9 0),(10,.i x.2),(16,.i (IntKind.i64.wrap (x.4.tmod (4:Int)))),(17,.nil),(18,.own 100),(102,.i (↑(List.map AV.cs x.6).length:Int)),(103,.i (IntKind.i64.wrap ((↑x.7:Int)+1)))],hp:=[(4,.box [.i a2,.i a3,.i a4.1,.i a4.2,.i a5.1.1,.i a5.1.2,.d (.v (.bool a5.2)),.i a5.3,.d (.v (.string a5.4)),.d (.sl (cellsL a6))]),(9,.box [.i x.1.1.1,.i x.1.1.2,.d (.v (.bool x.1.2)),.i x.1.3,.d (.v (.string x.1.4))]),(14,.box [.i x.3.1.1,.i x.3.1.2,.d (.v (.bool x.3.2)),.i x.3.3,.d (.v (.string x.3.4))]),(37,.fro 5 (List.map AV.cs x.5)),(100,.lst 25 5 ((List.map AV.cs x.6).set (↑x.7:Int).toNat cells'))],kn:=[],gd:=[]:St}=(Zcq a1 x' a2 a3 a4 a5 a6)∧inv_mvb x0 m x')∧(decide ((↑x.7:Int)<(↑(List.map AV.cs x.6).length:Int))=false→Zbt a1 fun es=>∃(x0:MZ),({tm:=[(1,.d (.sl (List.map AV.cs a1))),(4,.ref 4 0),(8,.d (.v (.bool false))),(9,.ref 9 0),(10,.i x.2),(16,.i (IntKind.i64.wrap (x.4.tmod (4:Int)))),(17,.own 50017),(18,.own 100),(113,.i (↑es.length:Int)),(114,.i 0)],hp:=[(4,.box [.i a2,.i a3,.i a4.1,.i a4.2,.i a5.1.1,.i a5.1.2,.d (.v (.bool a5.2)),.i a5.3,.d (.v (.string a5.4)),.d (.sl (cellsL a6))]),(9,.box [.i x.1.1.1,.i x.1.1.2,.d (.v (.bool x.1.2)),.i x.1.3,.d (.v (.string x.1.4))]),(14,.box [.i x.3.1.1,.i x.3.1.2,.d (.v (.bool x.3.2)),.i x.3.3,.d (.v (.string x.3.4))]),(37,.fro 5 (List.map AV.cs x.5)),(100,.lst 25 5 (List.map AV.cs x.6)),(50017,.lst 3 1 [])],kn:=[],gd:=[]:St}={tm:=[(1,.d (.sl (List.map AV.cs a1))),(4,.ref 4 0),(8,.d (.v (.bool false))),(9,.ref 9 0),(10,.i x0.1.2),(16,.i (IntKind.i64.wrap (x0.1.4.tmod (4:Int)))),(17,.own 50017),(18,.own 100),(113,.i (↑(List.map AV.cs a1).length:Int)),(114,.i (↑x0.3:Int))],hp:=bx_mv a2 a3 a4 a5 a6 x0.1.1++[(14,.box [.i x0.1.3.1.1,.i x0.1.3.1.2,.d (.v (.bool x0.1.3.2)),.i x0.1.3.3,.d (.v (.string x0.1.3.4))]),(37,.fro 5 (List.map AV.cs x0.1.5)),(100,.lst 25 5 (List.map AV.cs x0.1.6)),(50017,.lst 3 1 (List.map (fun(n:Int)=>[D.i n]) x0.2))],kn:=[],gd:=[]:St}∧∃(n:Nat),inv_mvc a1 x0 n x0)∧∀(n:Nat) (x:MZ),inv_mvc a1 x0 n x→(decide ((↑x.3:Int)<(↑(List.map AV.cs a1).length:Int))=true→Zbt a1 fun es=>(∀(c:List D),c∈[(Ze2 x es)]→c.length=1)∧(3:Nat)=(3:Nat)∧(1:Nat)=(1:Nat)∧(↑(List.map (fun(n:Int)=>[D.i n]) x.2).length.succ:Int)*(↑(8:Nat):Int)≤140737488355328∧Zbt a1 fun es_1=>Zbt a1 fun es_2=>((0:Int)≤IntKind.i64.wrap (IntKind.i64.wrap ((↑es_1.length:Int)-1)-(↑x.3:Int))∧IntKind.i64.wrap (IntKind.i64.wrap ((↑es_1.length:Int)-1)-(↑x.3:Int))<(↑es_2.length:Int))∧∃(cells:List D),es_2[(IntKind.i64.wrap (IntKind.i64.wrap ((↑es_1.length:Int)-1)-(↑x.3:Int))).toNat]? = some cells∧Zdz cells fun n_1 n_2 b n_3 b_1=>(↑(List.map AV.cs x.1.6).length.succ:Int)*(↑(48:Nat):Int)≤140737488355328∧∃(m:Nat),∃(x':MZ),m<n∧{tm:=[(1,.d (.sl (List.map AV.cs a1))),(4,.ref 4 0),(8,.d (.v (.bool false))),(9,.ref 9 0),(10,.i x.1.2),(16,.i (IntKind.i64.wrap (x.1.4.tmod (4:Int)))),(17,.own 50017),(18,.own 100),(113,.i (↑(List.map AV.cs a1).length:Int)),(114,.i (IntKind.i64.wrap ((↑x.3:Int)+1)))],hp:=[(4,.box [.i a2,.i a3,.i a4.1,.i a4.2,.i a5.1.1,.i a5.1.2,.d (.v (.bool a5.2)),.i a5.3,.d (.v (.string a5.4)),.d (.sl (cellsL a6))]),(9,.box [.i x.1.1.1.1,.i x.1.1.1.2,.d (.v (.bool x.1.1.2)),.i x.1.1.3,.d (.v (.string x.1.1.4))]),(14,.box [.i x.1.3.1.1,.i x.1.3.1.2,.d (.v (.bool x.1.3.2)),.i x.1.3.3,.d (.v (.string x.1.3.4))]),(37,.fro 5 (List.map AV.cs x.1.5)),(100,.lst 25 5 (List.map AV.cs x.1.6++[(Zdq n_1 n_2 b n_3 b_1)])),(50017,.lst 3 1 (List.map (fun(n:Int)=>[D.i n]) x.2++[(Ze2 x es)]))],kn:=[],gd:=[]:St}={tm:=[(1,.d (.sl (List.map AV.cs a1))),(4,.ref 4 0),(8,.d (.v (.bool false))),(9,.ref 9 0),(10,.i x'.1.2),(16,.i (IntKind.i64.wrap (x'.1.4.tmod (4:Int)))),(17,.own 50017),(18,.own 100),(113,.i (↑(List.map AV.cs a1).length:Int)),(114,.i (↑x'.3:Int))],hp:=bx_mv a2 a3 a4 a5 a6 x'.1.1++[(14,.box [.i x'.1.3.1.1,.i x'.1.3.1.2,.d (.v (.bool x'.1.3.2)),.i x'.1.3.3,.d (.v (.string x'.1.3.4))]),(37,.fro 5 (List.map AV.cs x'.1.5)),(100,.lst 25 5 (List.map AV.cs x'.1.6)),(50017,.lst 3 1 (List.map (fun(n:Int)=>[D.i n]) x'.2))],kn:=[],gd:=[]:St}∧inv_mvc a1 x0 m x')∧(decide ((↑x.3:Int)<(↑(List.map AV.cs a1).length:Int))=false→∃(e:EX),∃(tq:List Int),Z7 a2 a3 a4 a5 a6 e (List.map (fun(n:Int)=>[D.i n]) x.2=List.map (fun(n:Int)=>[D.i n]) tq∧fits e∧tq.length≤17592186043904∧Zer fun op sub t v args=>shiftE tq e=some (EX.mk op sub t v args)∧(((0:Int) != (0:Int))=true→Zcv a8)∧(((0:Int) != (0:Int))=false→∃(e:EX),∃(row:List AV),(Zbs op sub t v args)=cells e∧List.map AV.cs x.1.6=List.map AV.cs row∧Zde e row fun w f=>((w.1.1==x.1.1.1.1&&(w.1.2==x.1.1.1.2&&(w.2==x.1.1.2&&(w.3==x.1.1.3&&(w.4==x.1.1.4&&true)))))=true→a8 [.d (.v (.bool (f==x.1.2)))] [])∧((w.1.1==x.1.1.1.1&&(w.1.2==x.1.1.1.2&&(w.2==x.1.1.2&&(w.3==x.1.1.3&&(w.4==x.1.1.4&&true))))) = !true→Zcv a8)))))
theorem vc1001(op sub:Int)(t:Ty)(v:Go.Ex.AV)(args:List EX)(row other:List Go.Ex.AV)(a:Int)(Q:KT):vc E_k C_mv noI (fx_1001 op sub t v args row other) (f3.body.getD .skip) f3.results.toList [.agg (encX op sub t v (cellsL args)),.d (.sl (row.map Go.Ex.AV.cs)),.d (.v (.int .u8 a)),.d (.sl (other.map Go.Ex.AV.cs))] Q=(((!true)=true→Zcv Q)∧(Zd0 op sub t v args row Q fun w f=>(Zdj f op sub t v args fun L=>Zdk row fun l=>l≠[]∧l.length≤1400000000000∧∃(x0:MX),({tm:=[(1,.d (.sl (List.map AV.cs row))),(2,.d (.v (.int .u8 a))),(3,.d (.sl (List.map AV.cs other))),(4,.ref 4 0),(8,.d (.v (.bool false))),(9,.ref 9 0),(10,.i f),(11,.d (.sl (intsD L))),(12,.own 37),(39,.i (↑(List.map AV.cs l).length:Int)),(40,.i 0)],hp:=[(4,.box [.i op,.i sub,.i t.1,.i t.2,.i v.1.1,.i v.1.2,.d (.v (.bool v.2)),.i v.3,.d (.v (.string v.4)),.d (.sl (cellsL args))]),(9,.box [.i w.1.1,.i w.1.2,.d (.v (.bool w.2)),.i w.3,.d (.v (.string w.4))]),(37,.lst 25 5 (List.map AV.cs l))],kn:=[],gd:=[]:St}=(Zbp row x0 other op sub t v args)∧∃(n:Nat),inv_mva row other x0 n x0)∧∀(n:Nat) (x:MX),inv_mva row other x0 n x→(decide ((↑x.6:Int)<(↑(List.map AV.cs row).length:Int))=true→Zbt other fun es=>(decide ((↑x.6:Int)<(↑es.length:Int))=true→Zd2 other x fun n_1 n_2=>Zd2 row x fun n_3 n_4=>((n_1==n_3&&(n_2==n_4&&true))=true→Zv other x n row op sub t v args x0)∧((n_1==n_3&&(n_2==n_4&&true)) = !true→Zw x other n row op sub t v args x0))∧(decide ((↑x.6:Int)<(↑es.length:Int)) = !true→(false=true→Zv other x n row op sub t v args x0)∧(false = !true→Zw x other n row op sub t v args x0)))∧(decide ((↑x.6:Int)<(↑(List.map AV.cs row).length:Int))=false→Zc2 op sub t v args fun e row_2=>List.map AV.cs x.5=List.map AV.cs row_2∧Zde e row_2 fun w f=>((!(w.1.1==x.1.1.1&&(w.1.2==x.1.1.2&&(w.2==x.1.2&&(w.3==x.1.3&&(w.4==x.1.4&&true))))))=false→((f != x.2)=true→Zcv Q)∧((f != x.2)=false→Zo x row op sub t v args w Q))∧((!(w.1.1==x.1.1.1&&(w.1.2==x.1.1.2&&(w.2==x.1.2&&(w.3==x.1.3&&(w.4==x.1.4&&true)))))) = !false→(true=true→Zcv Q)∧(true=false→Zo x row op sub t v args w Q)))))):=by kernel_rfl
theorem same_held(w:Go.Ex.AV):(w.t.k==w.t.k&&(w.t.sc==w.t.sc&&(w.nul==w.nul&&(w.n==w.n&&(w.s==w.s&&true)))))=true:=by
 rw[ba_beq.2 rfl];simp only[beq_self_eq_true,Bool.and_self]
theorem wrap_mod{a:Int}(h0:0≤a):∃n:Nat,n≤3∧IntKind.i64.wrap (a.tmod 4)=(n:Int):=by
 have h1:0≤a.tmod 4:=Int.tmod_nonneg 4 h0
 have h2:a.tmod 4<4:=Int.tmod_lt_of_pos a (by decide)
 refine⟨(a.tmod 4).toNat,by omega,?_⟩
 rw[wrap64_of (by omega) (by omega)];omega
theorem ct1001a(G:GlOk gl):∀(e:EX) (row other:List Go.Ex.AV) (a:Int),fits e→row≠[]→RowIn row→RowIn other→row.length≤1000000000→other.length≤1000000000→0≤a→
  Ct prog gl 3 [.agg (cells e),.d (.sl (row.map Go.Ex.AV.cs)),.d (.v (.int .u8 a)),.d (.sl (other.map Go.Ex.AV.cs))] (gives [.d (.v (.bool true))])
 | .mk op sub t v args,row,other,a,hf,hne,hi,hio,hrl,hol,ha=>by
   have hc:encX op sub t v (cellsL args)=cells (.mk op sub t v args):=(cells_mk _ _ _ _ _).symm
   rw[cells_mk]
   refine ct_of_vc (E:=E_k) E_k_ok (C_mv_ok G) ioK_no (fun _ _ _ h=>h.elim) mixed (fn:=f3) (body:=f3.body.getD .skip) (by kernel_rfl) (by kernel_rfl) (by kernel_rfl) (fi:=fx_1001 op sub t v args row other) (by kernel_rfl) (by kernel_rfl) ⟨_,_,rfl,rfl⟩ ?_
   rw[vc1001];dsimp -eta -iota -proj only[Zcv,Zd0,Zc2,Z7,Z6,Zde,Zdj,Zco,Zdk,Zbp,Zbt,Zej,Zd2,Zcy,Zbw,Zbr,Ze0,Zv,Zdo,Zbg,Zdq,Zp,Zk,Zbq,Zq,Zw,Zo,Z3,Zcq,Zc9,Zc8,Zc7,Zc6,Ze2,Zdz,Zer,Zbs]
   refine⟨fun h=>(by cases h),fun _=>⟨.mk op sub t v args,row,hc,rfl,hf,hi,by omega,fun w f hev=>⟨fun _=>⟨rfl,rfl⟩,fun h140=>?_⟩⟩⟩
   have h140:(evalE row (.mk op sub t v args)).2≠140:=by rw[hev];simpa using h140
   have hmay:=evalE_ne h140
   refine⟨.mk op sub t v args,row.length,hc,hf,by omega,cols_in hmay.2.1,fun L hpw hmem hLl=>⟨row,rfl,hne,by omega,(⟨w,f,L,a,row,0⟩:MX),⟨rfl,row.length,⟨Nat.zero_le _,rfl⟩,⟨rfl,rfl,rfl,rfl⟩,rfl,rfl,fun _ _=>rfl,fun v hv=>.inl hv⟩,fun m (x:MX) hx=>⟨fun hlt=>?_,fun hge=>?_⟩⟩⟩
   ·have hlt:x.i<row.length:=by simpa using hlt
    obtain⟨⟨x1,x2⟩,⟨x3,x4,x5,x6⟩,x7,x8,x9,x10⟩:=hx
    have hkeep:inv_mva row other ⟨w,f,L,a,row,0⟩ (row.length-(x.i+1)) {x with i:=x.i+1}:=⟨⟨hlt,rfl⟩,⟨x3,x4,x5,x6⟩,x7,x8,x9,x10⟩
    have hwn:IntKind.i64.wrap ((x.i:Int)+1)=((x.i+1:Nat):Int):=wrap_next (by omega)
    have hin:∀(l:List Go.Ex.AV),x.i<l.length→(0:Int)≤x.i∧(x.i:Int)<((l.map Go.Ex.AV.cs).length:Int):=fun l h=>⟨by omega,by rw[List.length_map];omega⟩
    have hat:∀(l:List Go.Ex.AV) (h:x.i<l.length),(l.map Go.Ex.AV.cs)[((x.i:Nat):Int).toNat]? = some (l[x.i]).cs:=fun l h=>by rw[Int.toNat_natCast,List.getElem?_map,List.getElem?_eq_getElem h];rfl
    refine⟨_,rfl,fun ho=>?_,fun ho=>⟨fun h=>(by cases h),fun _=>⟨fun h=>(by cases h),fun _=>⟨fun h=>(by cases h),fun _=>⟨_,{x with i:=x.i+1},by omega,by rw[hwn];rfl,hkeep⟩⟩⟩⟩⟩
    have ho:x.i<other.length:=by simpa using ho
    refine⟨_,rfl,hin _ ho,_,hat _ ho,rfl,_,_,rfl,_,rfl,hin _ hlt,_,hat _ hlt,rfl,_,_,rfl,fun ht=>?_,fun ht=>⟨fun h=>(by cases h),fun _=>⟨fun h=>(by cases h),fun _=>⟨_,{x with i:=x.i+1},by omega,by rw[hwn];rfl,hkeep⟩⟩⟩⟩
    refine⟨_,rfl,hin _ ho,_,hat _ ho,rfl,_,_,_,_,_,rfl,fun hk=>?_,fun hk=>⟨fun h=>(by cases h),fun _=>⟨_,{x with i:=x.i+1},by omega,by rw[hwn];rfl,hkeep⟩⟩⟩
    have hxL:x.L.length≤4398046511104:=by rw[x5];show L.length≤_;omega
    refine⟨x.L,rfl,hxL,fun hl=>?_,fun hl=>⟨_,{x with i:=x.i+1},by omega,by rw[hwn];rfl,hkeep⟩⟩
    have ht:(other[x.i]).t=(row[x.i]).t:=by
       simp only[Bool.and_true,Bool.and_eq_true,beq_iff_eq]at ht
       rcases ho':(other[x.i]).t with⟨a1,a2⟩;rcases hr':(row[x.i]).t with⟨b1,b2⟩
       rw[ho',hr']at ht;obtain⟨rfl,rfl⟩:=ht;rfl
    have hk:badV (other[x.i])=false:=badV_iff.2 (s56_iff.1 (by simpa using hk))
    have hl:((x.i:Nat):Int)∉x.L:=by simpa using hl
    have hm:x.i<x.more.length:=by omega
    refine⟨_,rfl,hin _ ho,_,hat _ ho,rfl,_,_,_,_,_,rfl,hin _ hm,rfl,_,hat _ hm,_,rfl,row.length-(x.i+1),{x with more:=x.more.set x.i other[x.i],i:=x.i+1},by omega,?_,⟨hlt,rfl⟩,⟨x3,x4,x5,x6⟩,by rw[List.length_set];exact x7,?_,fun j hj=>?_,fun v hv=>?_⟩
    ·have e1:(x.more.map Go.Ex.AV.cs).set ((x.i:Nat):Int).toNat [D.v (Value.int .i64 (other[x.i]).t.k),D.v (Value.int .i64 (other[x.i]).t.sc),D.v (Value.bool (other[x.i]).nul),D.v (Value.int .i64 (other[x.i]).n),D.v (Value.string (other[x.i]).s)]=(x.more.set x.i other[x.i]).map Go.Ex.AV.cs:=by rw[Int.toNat_natCast,List.map_set]
     rw[hwn,e1];rfl
    ·show(x.more.set x.i other[x.i]).map Go.Ex.AV.t=row.map Go.Ex.AV.t
     rw[List.map_set,show x.more.map Go.Ex.AV.t=row.map Go.Ex.AV.t from x8,ht]
     exact List.ext_getElem (by simp) fun j h1 h2=>by
      rw[List.getElem_set];split
      ·rename_i e;subst e;simp
      ·rfl
    ·show(x.more.set x.i other[x.i])[j]? = row[j]?
     rw[List.getElem?_set_ne (by rintro rfl;exact hl hj)]
     exact x9 j hj
    ·rcases List.mem_or_eq_of_mem_set hv with h|h
     ·exact x10 v h
     ·subst h;exact .inr ⟨List.getElem_mem _,hk⟩
   ·have hge:¬x.i<row.length:=by simpa using hge
    obtain⟨⟨x1,x2⟩,⟨x3,x4,x5,x6⟩,x7,x8,x9,x10⟩:=hx
    have hbm:row.any badV=false→x.more.any badV=false:=fun h=>any_badV.2 fun v hv=>(x10 v hv).elim (fun h'=>any_badV.1 h v h') (fun h'=>h'.2)
    have hcm:∀y∈colsE (.mk op sub t v args),row[y.toNat]? = x.more[y.toNat]?:=fun y hy=>by
       have h1:=cols_in hmay.2.1 y hy
       have h2:=x9 y.toNat (by rw[x5,Int.toNat_of_nonneg h1.1];exact(hmem y).2 hy)
       exact h2.symm
    have hmore:=eval_like2 x8.symm h140 hbm hcm
    refine⟨.mk op sub t v args,x.more,hc,rfl,hf,fun v hv=>(x10 v hv).elim (fun h=>hi v h) (fun h=>hio v h.1),by omega,fun w' f' hev'=>⟨fun _=>⟨fun h=>?_,fun _=>?_⟩,fun h=>?_⟩⟩
    ·rw[hmore,hev]at hev'
     cases hev'
     rw[x4]at h;simp at h
    ·rw[hmore,hev]at hev'
     cases hev'
     obtain⟨n,hn3,hnw⟩:=wrap_mod ha
     have hxa:IntKind.i64.wrap (x.a.tmod 4)=(n:Int):=by rw[x6];exact hnw
     have e0:List.replicate (IntKind.i64.wrap (x.a.tmod 4)).toNat [D.v (Value.int .i64 0),D.v (Value.int .i64 0),D.v (Value.bool false),D.v (Value.int .i64 0),D.v (Value.string {data:={toList:=[]:Array UInt8}:ByteArray})]=(List.replicate n zeroV).map Go.Ex.AV.cs:=by
      rw[hxa,Int.toNat_natCast,List.map_replicate];rfl
     rw[e0]
     refine⟨by decide,by rw[hxa];omega,Int.le_refl _,by rw[hxa];omega,by rw[hxa];omega,(⟨x.w,x.f,w,x.a,x.more,List.replicate n zeroV,0⟩:MY),⟨rfl,n,⟨Nat.zero_le _,by simp⟩,⟨rfl,rfl,rfl,rfl,rfl⟩,rfl,by simp⟩,fun m2 (y:MY) hy=>⟨fun hlt2=>?_,fun hge2=>?_⟩⟩
     ·have hlt2:y.i<y.mv.length:=by simpa using hlt2
      obtain⟨⟨y1,y2⟩,⟨y3,y4,y5,y6,y7⟩,y8,y9⟩:=hy
      have y8:y.mv.length=n:=by rw[y8];simp
      have e1:(y.mv.map Go.Ex.AV.cs).set ((y.i:Nat):Int).toNat [D.v (Value.int .i64 2),D.v (Value.int .i64 0),D.v (Value.bool false),D.v (Value.int .i64 (y.i:Int)),D.v (Value.string {data:={toList:=[]:Array UInt8}:ByteArray})]=(y.mv.set y.i (ofI (y.i:Int))).map Go.Ex.AV.cs:=by rw[Int.toNat_natCast,List.map_set];rfl
      have e2:(y.mv.map Go.Ex.AV.cs).length=((y.mv.set y.i (ofI (y.i:Int))).map Go.Ex.AV.cs).length:=by simp
      refine⟨⟨by omega,by rw[List.length_map];omega⟩,rfl,(y.mv[y.i]).cs,by rw[Int.toNat_natCast,List.getElem?_map,List.getElem?_eq_getElem hlt2];rfl,_,rfl,y.mv.length-(y.i+1),{y with mv:=y.mv.set y.i (ofI (y.i:Int)),i:=y.i+1},by omega,?_,⟨by show y.i+1≤(y.mv.set _ _).length;rw[List.length_set];omega,by show _=(y.mv.set _ _).length-_;rw[List.length_set]⟩,⟨y3,y4,y5,y6,y7⟩,by rw[List.length_set,y8];simp,fun v hv=>?_⟩
      ·rw[wrap_next (by omega),e1,e2];rfl
      ·obtain⟨j,hj,rfl⟩:=List.getElem_of_mem hv
       simp only[List.length_take,List.length_set]at hj
       rw[List.getElem_take,List.getElem_set]
       split
       ·exact⟨y.i,by omega,rfl⟩
       ·rename_i hne'
        exact y9 _ (by rw[←List.getElem_take (j:=y.i) (h:=by simp;omega)];exact List.getElem_mem _)
     ·have hge2:¬y.i<y.mv.length:=by simpa using hge2
      obtain⟨⟨y1,y2⟩,⟨y3,y4,y5,y6,y7⟩,y8,y9⟩:=hy
      have y8:y.mv.length=n:=by rw[y8];simp
      rw[List.take_of_length_le (by omega)]at y9
      refine⟨_,rfl,(⟨y,[],0⟩:MZ),⟨rfl,row.length,⟨Nat.zero_le _,rfl⟩,⟨rfl,rfl,rfl,rfl,rfl⟩,by simp,rfl⟩,fun m3 (z:MZ) hz=>⟨fun hlt3=>?_,fun hge3=>?_⟩⟩
      ·have hlt3:z.j<row.length:=by simpa using hlt3
       obtain⟨⟨z1,z2⟩,⟨z3,z4,z5,z6,z7⟩,z8,z9⟩:=hz
       have hza:IntKind.i64.wrap (z.y.a.tmod 4)=(n:Int):=by rw[z6];show IntKind.i64.wrap (y.a.tmod 4)=_;rw[y6];exact hxa
       have hk:row.length-1-z.j<row.length:=by omega
       have hw1:IntKind.i64.wrap (IntKind.i64.wrap (((row.map Go.Ex.AV.cs).length:Int)-1)-(z.j:Int))=((row.length-1-z.j:Nat):Int):=by
        rw[List.length_map,wrap64_of (n:=(row.length:Int)-1) (by omega) (by omega),wrap64_of (by omega) (by omega)];omega
       have hw2:IntKind.i64.wrap (IntKind.i64.wrap (IntKind.i64.wrap (IntKind.i64.wrap (z.y.a.tmod 4)+((row.map Go.Ex.AV.cs).length:Int))-1)-(z.j:Int))=(n:Int)+row.length-1-(z.j:Int):=by
        rw[hza,List.length_map,wrap64_of (n:=(n:Int)+(row.length:Int)) (by omega) (by omega),wrap64_of (n:=(n:Int)+(row.length:Int)-1) (by omega) (by omega),wrap64_of (by omega) (by omega)]
       have hml:z.y.mv.length=n+z.j:=by rw[z8];show(y.mv++row.reverse.take z.j).length=_;simp;omega
       have htl:z.tq.length=z.j:=by rw[z9,tqE_len]
       have e1:z.y.mv.map Go.Ex.AV.cs++[[D.v (Value.int .i64 (row[row.length-1-z.j]).t.k),D.v (Value.int .i64 (row[row.length-1-z.j]).t.sc),D.v (Value.bool (row[row.length-1-z.j]).nul),D.v (Value.int .i64 (row[row.length-1-z.j]).n),D.v (Value.string (row[row.length-1-z.j]).s)]]=(z.y.mv++[row[row.length-1-z.j]]).map Go.Ex.AV.cs:=by rw[List.map_append];rfl
       have e2:z.tq.map (fun(n:Int)=>[D.v (Value.int .i64 n)])++[[D.v (Value.int .i64 ((n:Int)+row.length-1-(z.j:Int)))]]=(z.tq++[(n:Int)+row.length-1-(z.j:Int)]).map (fun(n:Int)=>[D.v (Value.int .i64 n)]):=by rw[List.map_append];rfl
       refine⟨_,rfl,by simp,rfl,rfl,by rw[List.length_map];omega,_,rfl,_,rfl,⟨by rw[hw1];omega,by rw[hw1,List.length_map];omega⟩,(row[row.length-1-z.j]).cs,by rw[hw1,Int.toNat_natCast,List.getElem?_map,List.getElem?_eq_getElem hk];rfl,rfl,_,_,_,_,_,rfl,by simp,rfl,rfl,by rw[List.length_map];omega,row.length-(z.j+1),(⟨{z.y with mv:=z.y.mv++[row[row.length-1-z.j]]},z.tq++[(n:Int)+row.length-1-(z.j:Int)],z.j+1⟩:MZ),by omega,?_,⟨hlt3,rfl⟩,⟨z3,z4,z5,z6,z7⟩,?_,?_⟩
       ·rw[wrap_next (by omega),hw2,e1,e2];rfl
       ·show z.y.mv++[row[row.length-1-z.j]]=y.mv++row.reverse.take (z.j+1)
        rw[z8,List.take_add_one,List.getElem?_reverse hlt3,List.getElem?_eq_getElem hk,←List.append_assoc];rfl
       ·show z.tq++[_]=tqE y.mv.length row.length (z.j+1)
        rw[tqE_succ,z9,y8]
      ·have hge3:¬z.j<row.length:=by simpa using hge3
       obtain⟨⟨z1,z2⟩,⟨z3,z4,z5,z6,z7⟩,z8,z9⟩:=hz
       have hj:z.j=row.length:=by omega
       rw[hj]at z8 z9
       have z8:z.y.mv=y.mv++row.reverse:=by rw[z8,List.take_of_length_le (by simp)]
       have z9:z.tq=tqE y.mv.length row.length row.length:=z9
       have hmv:Moves z.tq row z.y.mv:=by rw[z8,z9];exact moves_rev y.mv row
       have hbT:=any_badT.1 hmay.1
       obtain⟨e',hs,hev2⟩:=eval_moved2 (row':=z.y.mv) hmv h140 (fun hb=>any_badV.2 fun v hv=>by
        rw[z8]at hv
        rcases List.mem_append.1 hv with h'|h'
        ·obtain⟨k,hk,rfl⟩:=y9 v h';exact(ofI_good hk).1
        ·exact any_badV.1 hb v (List.mem_reverse.1 h')) (any_badT.2 fun v hv=>by
        rw[z8]at hv
        rcases List.mem_append.1 hv with h'|h'
        ·obtain⟨k,hk,rfl⟩:=y9 v h';exact(ofI_good hk).2.1
        ·exact hbT v (List.mem_reverse.1 h'))
       have hfe:fits e':=fits_shift' (by rw[z9];exact tqE_in (by omega) hrl (Nat.le_refl _)) hf hs
       rcases e' with⟨op',sub',t',v',l'⟩
       refine⟨.mk op sub t v args,z.tq,hc,rfl,hf,by rw[z9,tqE_len];omega,op',sub',t',v',l',hs,fun h=>(by cases h),fun _=>⟨.mk op' sub' t' v' l',z.y.mv,(cells_mk _ _ _ _ _).symm,rfl,hfe,fun v hv=>?_,by rw[z8];simp;omega,fun w2 f2 hev3=>?_⟩⟩
       ·rw[z8]at hv
        rcases List.mem_append.1 hv with h'|h'
        ·obtain⟨k,hk,rfl⟩:=y9 v h';exact(ofI_good hk).2.2
        ·exact hi v (List.mem_reverse.1 h')
       ·rw[hev2,hev]at hev3
        cases hev3
        have hzw:z.y.w=w:=z3.trans (y3.trans x3)
        have hzf:z.y.f=f:=z4.trans (y4.trans x4)
        rw[hzw,hzf]
        refine⟨fun _=>⟨by rw[beq_self_eq_true],rfl⟩,fun h=>?_⟩
        rw[same_held]at h;cases h
    ·rw[hmore,hev]at hev'
     cases hev'
     rw[x3,same_held]at h;cases h
end Go.Proofs.Tryz
