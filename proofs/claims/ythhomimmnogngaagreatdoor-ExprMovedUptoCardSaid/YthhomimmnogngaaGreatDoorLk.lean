/- A part of the proof: contracts of functions, by a verified generator of conditions; no condition of its own. -/
import Derived.Test.YthhomimmnogngaaGreatDoorE9
import Derived.Test.YthhomimmnogngaaGreatDoorB4
import Derived.Tactics
import Derived.Shelf.RegionOpenPlain
import Derived.WalkKit
import Derived.Deep.LoopGhost
import Derived.Deep.Draws
import Derived.Lib.Walk
import Derived.Lib.SliceRun
import Derived.Maps.OwnSet
import Derived.Maps.Views
import Derived.Lib.SlKeysI
namespace Go.Ex
open Go Go.Dm
mutual
def colsE:EX→List Int
 | .mk op sub _ _ args=>(if op=1 then [sub]else [])++colsL args
def colsL:List EX→List Int
 |[]=>[]
 |e::r=>colsE e++colsL r
end
theorem colsL_append(a b:List EX):colsL (a++b)=colsL a++colsL b:=by
 induction a with
 |nil=>simp[colsL]
 |cons e r ih=>simp[colsL,ih]
theorem colsL_mem{l:List EX}{e:EX}(h:e∈l):∀x∈colsE e,x∈colsL l:=by
 induction l with
 |nil=>cases h
 |cons a r ih=>
  intro x hx
  simp only[colsL,List.mem_append]
  rcases List.mem_cons.1 h with rfl|h
  ·exact .inl hx
  ·exact .inr (ih h x hx)
end Go.Ex
namespace Go.Proofs.Tryz
open Go Go.Dm Go.Ex Go.RowKit Go.Lib Go.Sort Go.Proofs Go.Maps
theorem law3:Keyed prog 3:=int_keyed underlying3
def MapI(w:World)(mb N:Nat)(ks:Int→Prop):Prop:=
 ∃D0:DataW Unit,w.ownsMap prog 3 (plainElem prog 4) mb N D0∧(∀x,has D0 (.int .i64 x)=true↔ks x)∧∀x,ks x→0≤x∧x<N
theorem i64wf{x:Int}(h:0≤x)(h2:x<35184372088832):(Lit.int .i64 x).wf=true:=by
 have e1:IntKind.i64.min = -9223372036854775808:=by decide
 have e2:IntKind.i64.max=9223372036854775807:=by decide
 simp[Lit.wf];omega
theorem mapI_put{w w1:World}{mb N:Nat}{ks:Int→Prop}{D0:DataW Unit}{k:Int}(hown:w.ownsMap prog 3 (plainElem prog 4) mb N D0)(hh:∀x,has D0 (.int .i64 x)=true↔ks x)(hr:∀x,ks x→0≤x∧x<N)
  (hk:0≤k∧k<N) (hN:N≤35184372088832) (h1:w1.ownsMap prog 3 (plainElem prog 4) mb (N+1) (D0.put (.int .i64 k) (.lit (.bool true)))):MapI w1 mb N (fun x=>ks x∨x=k):=by
 have hkl:WideAt.IsKeyLit (.int .i64 k):=by simp[WideAt.IsKeyLit]
 have hhas:∀x,has (D0.put (.int .i64 k) (.lit (.bool true))) (.int .i64 x)=true↔ks x∨x=k:=by
  intro x
  by_cases e:x=k
  ·subst e
   rw[has_put_same hown.isMap hkl];simp
  ·rw[has_put_other (by simpa using e),hh];simp[e]
 have hb:∀x,(ks x∨x=k)→0≤x∧x<N:=fun x h=>by
  rcases h with h|rfl
  ·exact hr x h
  ·exact hk
 refine⟨_,?_,hhas,hb⟩
 obtain⟨es,hD,hpw,_⟩:=h1.entries law3
 obtain⟨es',hD',hko⟩:=h1.keysOf
 obtain rfl:es=es':=by rw[hD]at hD';simpa using hD'
 have hsz:es.length≤N:=by
  have hkey:∀p∈es,∃x:Int,p.1 = .int .i64 x∧0≤x∧x<N:=fun p hp=>by
   obtain⟨v,hv⟩:=hko p hp
   obtain⟨x,_,hx,_⟩:=Maps.keyOf_i64 underlying3 hv
   refine⟨x,hx,hb x ((hhas x).1 ?_)⟩
   rw[hD,has_eq,List.any_eq_true]
   exact⟨p,hp,by rw[hx];simp[Lit.sameKey]⟩
  have hnd:(es.map fun p=>(Go.intOf p.1).toNat).Nodup:=by
   refine List.pairwise_map.2 (hpw.imp_of_mem fun {p q} hp' hq' hne e=>hne ?_)
   obtain⟨a,ha,ha0,_⟩:=hkey p hp'
   obtain⟨b,hb,hb0,_⟩:=hkey q hq'
   rw[ha,hb]at e ⊢
   simp only[Go.intOf]at e
   have:a=b:=by omega
   rw[this]
  have hsub:(es.map fun p=>(Go.intOf p.1).toNat)⊆List.range N:=fun y hy=>by
   obtain⟨p,hp,rfl⟩:=List.mem_map.1 hy
   obtain⟨a,ha,ha0,ha1⟩:=hkey p hp
   rw[ha]
   simp only[Go.intOf,List.mem_range]
   omega
  have:=List.Nodup.length_le_of_subset hnd hsub
  simpa using this
 obtain⟨es0,clock,hb0,F,hs,hD0⟩:=h1
 refine⟨es0,clock,hb0,F,?_,hD0⟩
 have e1:=length_read (R0:=plainElem (H:=Unit) prog 4) (P:=prog) (k:=3) es0
 rw[hD0]at hD
 injection hD with hD
 rw[hD]at e1
 omega
theorem upd_then{mb:Nat}{w w1 w2:World}(h:Upd [mb] w.heap.size w w1)(k:Upd [mb] w1.heap.size w1 w2):Upd [mb] w.heap.size w w2:=
 ⟨k.os.trans h.os,k.tape.trans h.tape,k.output.trans h.output,Nat.le_trans h.size k.size,fun i hi hb=>(k.block i (Nat.lt_of_lt_of_le hi h.size) hb).trans (h.block i hi hb)⟩
structure ArgM (ok:Nat→Prop) (w:World) (args:List EX) (sv:Value) (ad:Option Addr) (cap:Nat):Prop where
 eq:sv = .slice ad args.length cap
 cap:args.length≤cap
 at_:∀(i:Nat) (e:EX),args[i]? = some e→∃b off,ad=some ⟨b,off,none⟩∧ok b∧∃ys:List Value,ys.length=10∧(∀(j:Nat) x,ys[j]? = some x→w.cell? ⟨b,off+i*10+j,none⟩=some x)∧∀(j:Nat) x y,(cells e)[j]? = some x→ys[j]? = some y→Rd ok w y x
theorem argM_of{ok:Nat→Prop}{w:World}{args:List EX}{sv:Value}(h:Rd ok w sv (.sl (cellsL args))):∃ad cap,ArgM ok w args sv ad cap:=by
 generalize hes:cellsL args=es at h
 have hl:es.length=args.length:=by rw[←hes,cellsL_len]
 cases h with
 |nil=>
  obtain rfl:args=[]:=List.eq_nil_of_length_eq_zero (by simpa using hl.symm)
  exact⟨none,0,rfl,Nat.le_refl _,fun i e h=>by simp at h⟩
 | @nul a cap=>
   obtain rfl:args=[]:=List.eq_nil_of_length_eq_zero (by simpa using hl.symm)
   exact⟨some a,cap,rfl,Nat.zero_le _,fun i e h=>by simp at h⟩
 | @sl b off cap es sz x hcap hok hsz hc hr=>
   refine⟨some ⟨b,off,none⟩,cap,by rw[hl],by omega,fun i e he=>?_⟩
   have hi:i<args.length:=(List.getElem?_eq_some_iff.1 he).1
   have hg:es.getD i []=cells e:=by rw[List.getD_eq_getElem?_getD,←hes,cellsL_get he];rfl
   have h10:(cells e).length=10:=cellsL_all (l:=args) _ (by rw[cellsL_map];exact List.mem_map.2 ⟨e,List.mem_of_getElem? he,rfl⟩)
   have hs:sz=10:=by
    rw[←h10,←hg]
    exact(hsz _ (by rw[List.getD_eq_getElem?_getD,List.getElem?_eq_getElem (by omega)];exact List.getElem_mem _)).symm
   subst hs
   refine⟨b,off,rfl,hok (by rintro rfl;simp at hl;omega),(List.range 10).map (x i),by simp,fun j y hj=>?_,fun j d y hd hj=>?_⟩
   ·have hj10:j<10:=by have:=(List.getElem?_eq_some_iff.1 hj).1;simpa using this
    have:=hc i j (by omega) hj10
    rw[List.getElem?_map,List.getElem?_range hj10]at hj
    simp at hj
    rw[Nat.add_assoc,this,hj]
   ·have hj10:j<10:=by have:=(List.getElem?_eq_some_iff.1 hj).1;simpa using this
    have:=hr i j (by omega) hj10
    rw[List.getElem?_map,List.getElem?_range hj10]at hj
    simp at hj
    rw[hg,List.getD_eq_getElem?_getD,hd]at this
    rw[←hj];exact this
theorem ten{xs:Array Value}(h:xs.size=10):∃a b c d e f g i j k:Value,xs = #[a,b,c,d,e,f,g,i,j,k]:=by
 obtain⟨l⟩:=xs
 match l,h with
 |[a,b,c,d,e,f,g,i,j,k],_=>exact⟨a,b,c,d,e,f,g,i,j,k,rfl⟩
theorem rd_v{ok:Nat→Prop}{w:World}{v x:Value}(h:Rd ok w v (.v x)):v=x:=by cases h;rfl
theorem turned_heap{W W':World}{mb b:Nat}(h:W.mapTurned W' mb)(hb:b≠mb):W'.heap[b]? = W.heap[b]?:=by
 obtain⟨es,ck,es',ck',hm,rfl⟩:=h
 exact Go.ChangeMaps.heap_setBlock_other hm _ hb
theorem turned_upd{w:World}{W W':World}{mb:Nat}(h:W.mapTurned W' mb)(hU:Upd [mb] w.heap.size w W):Upd [mb] w.heap.size w W':=by
 refine⟨?_,?_,?_,?_,fun k hk hkb=>?_⟩
 ·obtain⟨es,ck,es',ck',_,rfl⟩:=h;exact hU.os
 ·obtain⟨es,ck,es',ck',_,rfl⟩:=h;exact hU.tape
 ·obtain⟨es,ck,es',ck',_,rfl⟩:=h;exact hU.output
 ·obtain⟨es,ck,es',ck',_,rfl⟩:=h
  have:=hU.size
  simp[Go.ChangeMaps.setBlock];omega
 ·rw[turned_heap h (by simpa using hkb)];exact hU.block k hk hkb
theorem alloc_upd{w:World}{mb:Nat}(o:Obj):Upd [mb] w.heap.size w (w.alloc o):=by
 refine⟨rfl,rfl,rfl,?_,fun k hk _=>?_⟩
 ·show w.heap.size≤(w.heap.push o).size
  simp
 ·show(w.heap.push o)[k]? = _
  rw[Array.getElem?_push,if_neg (by omega)]
set_option maxHeartbeats 4000000 in
set_option maxRecDepth 1000000 in
theorem look_walk(N:Nat)(hN:N≤35184372088832):∀(n:Nat) (e:EX),size e<n→fits e→(∀x∈colsE e,0≤x∧x<N)→∀(ok:Nat→Prop) (w:World) (mb:Nat) (ks:Int→Prop) (xs:Array Value),xs.size=10→
  (∀(i:Nat) x v,(cells e)[i]? = some x→xs[i]? = some v→Rd ok w v x)→(∀b,ok b→b<w.heap.size)→¬ok mb→MapI w mb N ks→
  Calls prog 19 #[.agg xs,.map (some mb)] w fun r w'=>r = .returned (.tuple #[])∧MapI w' mb N (fun x=>ks x∨x∈colsE e)∧Upd [mb] w.heap.size w w':=by
 intro n
 induction n with
 |zero=>intro e h;omega
 |succ n ih=>
 rintro⟨op,sub,t,v,args⟩ hn hf hc ok w mb ks xs hx hrd hok hmb hmap
 obtain⟨x0,x1,x2,x3,x4,x5,x6,x7,x8,x9,rfl⟩:=ten hx
 simp only[cells]at hrd
 obtain rfl:=rd_v (hrd 0 _ x0 rfl rfl)
 obtain rfl:=rd_v (hrd 1 _ x1 rfl rfl)
 obtain rfl:=rd_v (hrd 2 _ x2 rfl rfl)
 obtain rfl:=rd_v (hrd 3 _ x3 rfl rfl)
 obtain rfl:=rd_v (hrd 4 _ x4 rfl rfl)
 obtain rfl:=rd_v (hrd 5 _ x5 rfl rfl)
 obtain rfl:=rd_v (hrd 6 _ x6 rfl rfl)
 obtain rfl:=rd_v (hrd 7 _ x7 rfl rfl)
 obtain rfl:=rd_v (hrd 8 _ x8 rfl rfl)
 obtain⟨ad,cap,hA⟩:=argM_of (hrd 9 _ x9 rfl rfl)
 obtain rfl:=hA.eq
 clear hrd
 go_enter func19,(show f19.ntmps=23 from by kernel_rfl)
 obtain⟨D0,hown,hh,hr⟩:=hmap
 have hlen:=(fits_mk hf).2.1
 have hNm:N<maxLen:=Nat.lt_of_le_of_lt hN (by decide)
 have hblt:mb<w.heap.size:=hown.lt
 by_cases ho:op=1
 ·have hsub:0≤sub∧sub<N:=hc sub (by simp[colsE,ho])
  have hkey:=keyOf_int_mk underlying3 (i64wf hsub.1 (by omega))
  have hbe:(op==1)=true:=by simp[ho]
  go_wp2_with (first
   |(at_mapUpdate;refine wpList_mapUpdate_in _ rfl _ _ _ 55 rfl 3 4 law3 underlying55 _ mb N D0 rfl (hown.alloc _) hNm _ _ _ rfl rfl hkey _ [] (plainElem_bool underlying4 true) ?_;intro w1 hown1 hturn1
     have hcell:w1.cell? ⟨w.heap.size,9,none⟩=some (.slice ad args.length cap):=by
      rw[World.cell?_of_block (turned_heap hturn1 (show w.heap.size≠mb by omega))];rw[World.cell?_alloc_at _ _ _ _ rfl];rfl)
   |fail)
  have hM:MapI w1 mb N (fun x=>ks x∨(op=1∧x=sub)):=by
   have:=mapI_put hown hh hr hsub hN hown1
   simpa[ho]using this
  have hU:Upd [mb] w.heap.size w w1:=turned_upd hturn1 (alloc_upd _)
  go_loopg [15] args.length (fun g s15 wr=>∃k,k≤args.length∧args.length-k≤g∧s15 = .int .i64 (k:Int)∧MapI wr mb N (fun x=>ks x∨(op=1∧x=sub)∨x∈colsL (args.take k))∧Upd [mb] w.heap.size w wr)
  case atStart=>exact⟨0,Nat.zero_le _,by omega,rfl,by simpa[colsL]using hM,hU⟩
  case round=>
   obtain⟨k,hk,hg,rfl,hMk,hUk⟩:=hrel
   by_cases hlt:k<args.length
   ·obtain⟨b,off,hb,hokb,ys,hy10,hyc,hyr⟩:=hA.at_ k args[k] (List.getElem?_eq_getElem hlt)
    subst hb
    obtain⟨y0,y1,y2,y3,y4,y5,y6,y7,y8,y9,rfl⟩:∃y0 y1 y2 y3 y4 y5 y6 y7 y8 y9,ys=[y0,y1,y2,y3,y4,y5,y6,y7,y8,y9]:=by
     match ys,hy10 with
     |[a,b,c,d,e,f,g,i,j,k],_=>exact⟨a,b,c,d,e,f,g,i,j,k,rfl⟩
    have hem:args[k]∈args:=List.getElem_mem hlt
    have hsz:=size_arg (op:=op) (sub:=sub) (ty:=t) (v:=v) hem
    have hfk:=fitsL_mem (fits_mk hf).2.2 hem
    have hck:∀x∈colsE args[k],0≤x∧x<N:=fun x hx=>hc x (by simp only[colsE];exact List.mem_append_right _ (colsL_mem hem x hx))
    have htk:colsL (args.take (k+1))=colsL (args.take k)++colsE args[k]:=by rw[List.take_succ_eq_append_getElem hlt,colsL_append];simp[colsL]
    rcases hae:args[k]with⟨op',sub',t',v',args'⟩
    rw[hae]at hyr hsz hfk hck htk
    have hyr0:=hyr
    simp only[cells]at hyr
    obtain rfl:=rd_v (hyr 0 _ y0 rfl rfl)
    obtain rfl:=rd_v (hyr 1 _ y1 rfl rfl)
    obtain rfl:=rd_v (hyr 2 _ y2 rfl rfl)
    obtain rfl:=rd_v (hyr 3 _ y3 rfl rfl)
    obtain rfl:=rd_v (hyr 4 _ y4 rfl rfl)
    obtain rfl:=rd_v (hyr 5 _ y5 rfl rfl)
    obtain rfl:=rd_v (hyr 6 _ y6 rfl rfl)
    obtain rfl:=rd_v (hyr 7 _ y7 rfl rfl)
    obtain rfl:=rd_v (hyr 8 _ y8 rfl rfl)
    obtain⟨ad',cap',hA'⟩:=argM_of (hyr 9 _ y9 rfl rfl)
    obtain rfl:=hA'.eq
    clear hyr hA'
    have hbm:b≠mb:=fun e=>hmb (e▸hokb)
    have hc0:∀o,wr.cell? ⟨b,o,none⟩=w.cell? ⟨b,o,none⟩:=fun o=>World.cell?_of_block (hUk.block b (hok b hokb) (by simpa using hbm))
    have c0:wr.cell? ⟨b,off+k*10,none⟩=some (.int .i64 op'):=by rw[hc0];exact hyc 0 _ rfl
    have c1:wr.cell? ⟨b,off+k*10+1,none⟩=some (.int .i64 sub'):=by rw[hc0];exact hyc 1 _ rfl
    have c2:wr.cell? ⟨b,off+k*10+2,none⟩=some (.int .i64 t'.k):=by rw[hc0];exact hyc 2 _ rfl
    have c3:wr.cell? ⟨b,off+k*10+3,none⟩=some (.int .i64 t'.sc):=by rw[hc0];exact hyc 3 _ rfl
    have c4:wr.cell? ⟨b,off+k*10+4,none⟩=some (.int .i64 v'.t.k):=by rw[hc0];exact hyc 4 _ rfl
    have c5:wr.cell? ⟨b,off+k*10+5,none⟩=some (.int .i64 v'.t.sc):=by rw[hc0];exact hyc 5 _ rfl
    have c6:wr.cell? ⟨b,off+k*10+6,none⟩=some (.bool v'.nul):=by rw[hc0];exact hyc 6 _ rfl
    have c7:wr.cell? ⟨b,off+k*10+7,none⟩=some (.int .i64 v'.n):=by rw[hc0];exact hyc 7 _ rfl
    have c8:wr.cell? ⟨b,off+k*10+8,none⟩=some (.string v'.s):=by rw[hc0];exact hyc 8 _ rfl
    have c9:wr.cell? ⟨b,off+k*10+9,none⟩=some (.slice ad' args'.length cap'):=by rw[hc0];exact hyc 9 _ rfl
    have hbw:∀b,ok b→(wr.alloc (Obj.cells #[.int .i64 op',.int .i64 sub',.int .i64 t'.k,.int .i64 t'.sc,.int .i64 v'.t.k,.int .i64 v'.t.sc,.bool v'.nul,.int .i64 v'.n,.string v'.s,.slice ad' args'.length cap'] 28)).heap[b]? = w.heap[b]?:=fun b hb=>by
     have h1:=hok b hb
     rw[Below.heap_alloc _ _ _ (Nat.lt_of_lt_of_le h1 hUk.size)]
     exact hUk.block b h1 (by simp only[List.mem_singleton];intro e;exact hmb (e▸hb))
    have hMa:MapI (wr.alloc (Obj.cells #[.int .i64 op',.int .i64 sub',.int .i64 t'.k,.int .i64 t'.sc,.int .i64 v'.t.k,.int .i64 v'.t.sc,.bool v'.nul,.int .i64 v'.n,.string v'.s,.slice ad' args'.length cap'] 28)) mb N (fun x=>ks x∨(op=1∧x=sub)∨x∈colsL (args.take k)):=by
     obtain⟨D1,ho1,hh1,hr1⟩:=hMk
     exact⟨D1,ho1.alloc _,hh1,hr1⟩
    have hUa:Upd [mb] wr.heap.size wr (wr.alloc (Obj.cells #[.int .i64 op',.int .i64 sub',.int .i64 t'.k,.int .i64 t'.sc,.int .i64 v'.t.k,.int .i64 v'.t.sc,.bool v'.nul,.int .i64 v'.n,.string v'.s,.slice ad' args'.length cap'] 28)):=alloc_upd _
    have hcall:Calls prog 19 #[.agg #[.int .i64 op',.int .i64 sub',.int .i64 t'.k,.int .i64 t'.sc,.int .i64 v'.t.k,.int .i64 v'.t.sc,.bool v'.nul,.int .i64 v'.n,.string v'.s,.slice ad' args'.length cap'],.map (some mb)] (wr.alloc (Obj.cells #[.int .i64 op',.int .i64 sub',.int .i64 t'.k,.int .i64 t'.sc,.int .i64 v'.t.k,.int .i64 v'.t.sc,.bool v'.nul,.int .i64 v'.n,.string v'.s,.slice ad' args'.length cap'] 28)) fun r w'=>r = .returned (.tuple #[])∧Aside (MapI w' mb N (fun x=>(ks x∨(op=1∧x=sub)∨x∈colsL (args.take k))∨x∈colsE (.mk op' sub' t' v' args')))∧Aside (Upd [mb] w.heap.size w w'):=
     (ih _ (by omega) hfk hck ok _ mb _ _ rfl (fun i x v h1 h2=>(hyr0 i x v h1 (by simpa using h2)).mono (fun _ h=>h) hbw) (fun b hb'=>Nat.lt_of_lt_of_le (hok b hb') (Nat.le_trans hUk.size hUa.size)) hmb hMa).mono fun e w' ⟨h1,h2,h3⟩=>⟨h1,h2,upd_then (upd_then hUk hUa) h3⟩
    clear hbw hMa hUa
    clear hc0 hyc
    have AA:Aside (ArgM ok w args (.slice (some ⟨b,off,none⟩) args.length cap) (some ⟨b,off,none⟩) cap):=hA
    have HK:Aside (colsL (args.take (k+1))=colsL (args.take k)++colsE (.mk op' sub' t' v' args')):=htk
    have HM:Aside (MapI wr mb N (fun x=>ks x∨(op=1∧x=sub)∨x∈colsL (args.take k))):=hMk
    have HU:Aside (Upd [mb] w.heap.size w wr):=hUk
    clear hA hyr0 hMk hUk hsz hfk hck htk hem hae
    go_wp2_with (go_at_call 19;refine hcall.mono ?_;rintro e w3 ⟨rfl,hM3,hU3⟩)
    go_roundg (args.length-(k+1))
    case measure=>omega
    case rel=>
     refine⟨k+1,by omega,Nat.le_refl _,by go_num,?_,hU3.out⟩
     have:=hM3.out
     rw[HK.out]
     simpa[or_assoc]using this
   ·go_wp2
    go_end0
    have hk':k=args.length:=by omega
    subst hk'
    rw[List.take_length]at hMk
    refine⟨rfl,?_,hUk⟩
    have e:colsE (EX.mk op sub t v args)=(if op=1 then [sub]else [])++colsL args:=rfl
    rw[e]
    have e2:(fun x=>ks x∨x∈(if op=1 then [sub]else [])++colsL args)=(fun x=>ks x∨op=1∧x=sub∨x∈colsL args):=by
     funext x;simp[ho]
    rw[e2];exact hMk
 ·go_wp2
  have hM:MapI (w.alloc (Obj.cells #[.int .i64 op,.int .i64 sub,.int .i64 t.k,.int .i64 t.sc,.int .i64 v.t.k,.int .i64 v.t.sc,.bool v.nul,.int .i64 v.n,.string v.s,.slice ad args.length cap] 28)) mb N (fun x=>ks x∨(op=1∧x=sub)):=
   ⟨D0,hown.alloc _,fun x=>by rw[hh];simp[ho],fun x hx=>hr x (by simpa[ho]using hx)⟩
  have hU:Upd [mb] w.heap.size w (w.alloc (Obj.cells #[.int .i64 op,.int .i64 sub,.int .i64 t.k,.int .i64 t.sc,.int .i64 v.t.k,.int .i64 v.t.sc,.bool v.nul,.int .i64 v.n,.string v.s,.slice ad args.length cap] 28)):=alloc_upd _
  generalize hW:w.alloc (Obj.cells #[.int .i64 op,.int .i64 sub,.int .i64 t.k,.int .i64 t.sc,.int .i64 v.t.k,.int .i64 v.t.sc,.bool v.nul,.int .i64 v.n,.string v.s,.slice ad args.length cap] 28)=W at hM hU ⊢
  clear hW
  have hbe:(op==1)=false:=by simp[ho]
  rw[hbe]
  go_loopg [15] args.length (fun g s15 wr=>∃k,k≤args.length∧args.length-k≤g∧s15 = .int .i64 (k:Int)∧MapI wr mb N (fun x=>ks x∨(op=1∧x=sub)∨x∈colsL (args.take k))∧Upd [mb] w.heap.size w wr)
  case atStart=>exact⟨0,Nat.zero_le _,by omega,rfl,by simpa[colsL]using hM,hU⟩
  case round=>
   obtain⟨k,hk,hg,rfl,hMk,hUk⟩:=hrel
   by_cases hlt:k<args.length
   ·obtain⟨b,off,hb,hokb,ys,hy10,hyc,hyr⟩:=hA.at_ k args[k] (List.getElem?_eq_getElem hlt)
    subst hb
    obtain⟨y0,y1,y2,y3,y4,y5,y6,y7,y8,y9,rfl⟩:∃y0 y1 y2 y3 y4 y5 y6 y7 y8 y9,ys=[y0,y1,y2,y3,y4,y5,y6,y7,y8,y9]:=by
     match ys,hy10 with
     |[a,b,c,d,e,f,g,i,j,k],_=>exact⟨a,b,c,d,e,f,g,i,j,k,rfl⟩
    have hem:args[k]∈args:=List.getElem_mem hlt
    have hsz:=size_arg (op:=op) (sub:=sub) (ty:=t) (v:=v) hem
    have hfk:=fitsL_mem (fits_mk hf).2.2 hem
    have hck:∀x∈colsE args[k],0≤x∧x<N:=fun x hx=>hc x (by simp only[colsE];exact List.mem_append_right _ (colsL_mem hem x hx))
    have htk:colsL (args.take (k+1))=colsL (args.take k)++colsE args[k]:=by rw[List.take_succ_eq_append_getElem hlt,colsL_append];simp[colsL]
    rcases hae:args[k]with⟨op',sub',t',v',args'⟩
    rw[hae]at hyr hsz hfk hck htk
    have hyr0:=hyr
    simp only[cells]at hyr
    obtain rfl:=rd_v (hyr 0 _ y0 rfl rfl)
    obtain rfl:=rd_v (hyr 1 _ y1 rfl rfl)
    obtain rfl:=rd_v (hyr 2 _ y2 rfl rfl)
    obtain rfl:=rd_v (hyr 3 _ y3 rfl rfl)
    obtain rfl:=rd_v (hyr 4 _ y4 rfl rfl)
    obtain rfl:=rd_v (hyr 5 _ y5 rfl rfl)
    obtain rfl:=rd_v (hyr 6 _ y6 rfl rfl)
    obtain rfl:=rd_v (hyr 7 _ y7 rfl rfl)
    obtain rfl:=rd_v (hyr 8 _ y8 rfl rfl)
    obtain⟨ad',cap',hA'⟩:=argM_of (hyr 9 _ y9 rfl rfl)
    obtain rfl:=hA'.eq
    clear hyr hA'
    have hbm:b≠mb:=fun e=>hmb (e▸hokb)
    have hc0:∀o,wr.cell? ⟨b,o,none⟩=w.cell? ⟨b,o,none⟩:=fun o=>World.cell?_of_block (hUk.block b (hok b hokb) (by simpa using hbm))
    have c0:wr.cell? ⟨b,off+k*10,none⟩=some (.int .i64 op'):=by rw[hc0];exact hyc 0 _ rfl
    have c1:wr.cell? ⟨b,off+k*10+1,none⟩=some (.int .i64 sub'):=by rw[hc0];exact hyc 1 _ rfl
    have c2:wr.cell? ⟨b,off+k*10+2,none⟩=some (.int .i64 t'.k):=by rw[hc0];exact hyc 2 _ rfl
    have c3:wr.cell? ⟨b,off+k*10+3,none⟩=some (.int .i64 t'.sc):=by rw[hc0];exact hyc 3 _ rfl
    have c4:wr.cell? ⟨b,off+k*10+4,none⟩=some (.int .i64 v'.t.k):=by rw[hc0];exact hyc 4 _ rfl
    have c5:wr.cell? ⟨b,off+k*10+5,none⟩=some (.int .i64 v'.t.sc):=by rw[hc0];exact hyc 5 _ rfl
    have c6:wr.cell? ⟨b,off+k*10+6,none⟩=some (.bool v'.nul):=by rw[hc0];exact hyc 6 _ rfl
    have c7:wr.cell? ⟨b,off+k*10+7,none⟩=some (.int .i64 v'.n):=by rw[hc0];exact hyc 7 _ rfl
    have c8:wr.cell? ⟨b,off+k*10+8,none⟩=some (.string v'.s):=by rw[hc0];exact hyc 8 _ rfl
    have c9:wr.cell? ⟨b,off+k*10+9,none⟩=some (.slice ad' args'.length cap'):=by rw[hc0];exact hyc 9 _ rfl
    have hbw:∀b,ok b→(wr.alloc (Obj.cells #[.int .i64 op',.int .i64 sub',.int .i64 t'.k,.int .i64 t'.sc,.int .i64 v'.t.k,.int .i64 v'.t.sc,.bool v'.nul,.int .i64 v'.n,.string v'.s,.slice ad' args'.length cap'] 28)).heap[b]? = w.heap[b]?:=fun b hb=>by
     have h1:=hok b hb
     rw[Below.heap_alloc _ _ _ (Nat.lt_of_lt_of_le h1 hUk.size)]
     exact hUk.block b h1 (by simp only[List.mem_singleton];intro e;exact hmb (e▸hb))
    have hMa:MapI (wr.alloc (Obj.cells #[.int .i64 op',.int .i64 sub',.int .i64 t'.k,.int .i64 t'.sc,.int .i64 v'.t.k,.int .i64 v'.t.sc,.bool v'.nul,.int .i64 v'.n,.string v'.s,.slice ad' args'.length cap'] 28)) mb N (fun x=>ks x∨(op=1∧x=sub)∨x∈colsL (args.take k)):=by
     obtain⟨D1,ho1,hh1,hr1⟩:=hMk
     exact⟨D1,ho1.alloc _,hh1,hr1⟩
    have hUa:Upd [mb] wr.heap.size wr (wr.alloc (Obj.cells #[.int .i64 op',.int .i64 sub',.int .i64 t'.k,.int .i64 t'.sc,.int .i64 v'.t.k,.int .i64 v'.t.sc,.bool v'.nul,.int .i64 v'.n,.string v'.s,.slice ad' args'.length cap'] 28)):=alloc_upd _
    have hcall:Calls prog 19 #[.agg #[.int .i64 op',.int .i64 sub',.int .i64 t'.k,.int .i64 t'.sc,.int .i64 v'.t.k,.int .i64 v'.t.sc,.bool v'.nul,.int .i64 v'.n,.string v'.s,.slice ad' args'.length cap'],.map (some mb)] (wr.alloc (Obj.cells #[.int .i64 op',.int .i64 sub',.int .i64 t'.k,.int .i64 t'.sc,.int .i64 v'.t.k,.int .i64 v'.t.sc,.bool v'.nul,.int .i64 v'.n,.string v'.s,.slice ad' args'.length cap'] 28)) fun r w'=>r = .returned (.tuple #[])∧Aside (MapI w' mb N (fun x=>(ks x∨(op=1∧x=sub)∨x∈colsL (args.take k))∨x∈colsE (.mk op' sub' t' v' args')))∧Aside (Upd [mb] w.heap.size w w'):=
     (ih _ (by omega) hfk hck ok _ mb _ _ rfl (fun i x v h1 h2=>(hyr0 i x v h1 (by simpa using h2)).mono (fun _ h=>h) hbw) (fun b hb'=>Nat.lt_of_lt_of_le (hok b hb') (Nat.le_trans hUk.size hUa.size)) hmb hMa).mono fun e w' ⟨h1,h2,h3⟩=>⟨h1,h2,upd_then (upd_then hUk hUa) h3⟩
    clear hbw hMa hUa
    clear hc0 hyc
    have AA:Aside (ArgM ok w args (.slice (some ⟨b,off,none⟩) args.length cap) (some ⟨b,off,none⟩) cap):=hA
    have HK:Aside (colsL (args.take (k+1))=colsL (args.take k)++colsE (.mk op' sub' t' v' args')):=htk
    have HM:Aside (MapI wr mb N (fun x=>ks x∨(op=1∧x=sub)∨x∈colsL (args.take k))):=hMk
    have HU:Aside (Upd [mb] w.heap.size w wr):=hUk
    clear hA hyr0 hMk hUk hsz hfk hck htk hem hae
    go_wp2_with (go_at_call 19;refine hcall.mono ?_;rintro e w3 ⟨rfl,hM3,hU3⟩)
    go_roundg (args.length-(k+1))
    case measure=>omega
    case rel=>
     refine⟨k+1,by omega,Nat.le_refl _,by go_num,?_,hU3.out⟩
     have:=hM3.out
     rw[HK.out]
     simpa[or_assoc]using this
   ·go_wp2
    go_end0
    have hk':k=args.length:=by omega
    subst hk'
    rw[List.take_length]at hMk
    refine⟨rfl,?_,hUk⟩
    have e:colsE (EX.mk op sub t v args)=(if op=1 then [sub]else [])++colsL args:=rfl
    rw[e]
    have e2:(fun x=>ks x∨x∈(if op=1 then [sub]else [])++colsL args)=(fun x=>ks x∨op=1∧x=sub∨x∈colsL args):=by
     funext x;simp[ho]
    rw[e2];exact hMk
end Go.Proofs.Tryz
