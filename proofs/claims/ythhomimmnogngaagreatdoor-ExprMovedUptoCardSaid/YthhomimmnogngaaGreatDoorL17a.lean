/- A part of the proof: contracts of functions, by a verified generator of conditions; no condition of its own. -/
import Derived.Test.YthhomimmnogngaaGreatDoorDt5
import Derived.Test.YthhomimmnogngaaGreatDoorRows
import Derived.Test.YthhomimmnogngaaGreatDoorTie
import Derived.Test.YthhomimmnogngaaGreatDoorCards
import Derived.SevenTiedAt
import Derived.LaidMore
import Derived.Stop.Joined
import Derived.Lib.LaidU8
import Derived.Stop.LaidErr
import Derived.Shelf.Vars
import Derived.JoinedCond
import Derived.Deep.DeepHandedRow
import Derived.Deep.DeepWitnessRowRef
namespace Go.Proofs.YthhomimmnogngaaGreatDoor
open Go Go.Dm Go.Ex Go.Proofs.Tryz Go.Lib Go.Proofs
open Go.ChangeShapes Go.WideShapes Go.ChangeAt Go.RowKit
set_option maxRecDepth 100000
noncomputable def glW(W:World):Nat→Option Obj:=fun b=>if b<Tryz.prog.globals.size then W.heap[b]? else none
theorem glW_in{W:World}{b:Nat}{o:Obj}(h:glW W b=some o):W.heap[b]? = some o:=by
 unfold glW at h
 split at h
 ·exact h
 ·cases h
theorem cell_agree{W w:World}(h:∀b o,glW W b=some o→w.heap[b]? = some o){g i:Nat}{v:Value}(hg:g<Tryz.prog.globals.size)(hc:W.cell? ⟨g,i,none⟩=some v):w.cell? ⟨g,i,none⟩=some v:=by
 have hw:∀o,W.heap[g]? = some o→w.heap[g]? = some o:=fun o ho=>h g o (by unfold glW;rw[if_pos hg];exact ho)
 unfold World.cell? at hc ⊢
 cases ho:W.heap[g]? with
 |none=>simp[ho]at hc
 |some o=>
  rw[hw o ho]
  rw[ho]at hc
  exact hc
theorem var_agree{W w:World}(h:∀b o,glW W b=some o→w.heap[b]? = some o){n:String}{g:Nat}{cs:Array Value}(hn:Tryz.prog.globalNamed n=some g)(hg:g<Tryz.prog.globals.size)(hc:W.var? Tryz.prog n=some cs):w.var? Tryz.prog n=some cs:=by
 have hw:∀o,W.heap[g]? = some o→w.heap[g]? = some o:=fun o ho=>h g o (by unfold glW;rw[if_pos hg];exact ho)
 unfold World.var? at hc ⊢
 rw[hn,Option.bind_some]at hc ⊢
 cases ho:W.heap[g]? with
 |none=>simp[ho]at hc
 |some o=>
  rw[hw o ho]
  rw[ho]at hc
  exact hc
noncomputable def mths(t:TypeId):Array (String×TypeId):=match Tryz.prog.underlying t with|some (.interface ms)=>ms|_=>#[]
noncomputable def elemOf(t:TypeId):TypeId:=match Tryz.prog.underlying t with|some (.array _ e)=>e|_=>0
noncomputable def gty(g:Nat):TypeId:=((Tryz.prog.globals[g]?).map (·.type)).getD 0
theorem iface_cell{W:World}{n nm:String}{d:DataW Unit}(h:VarReads Tryz.prog W n (.iface nm d)){g:Nat}{ti:TypeId}(hg:Tryz.prog.globalNamed n=some g)(ht:(Tryz.prog.globals[g]?).map (·.type)=some ti){ms}(hi:Tryz.prog.underlying ti=some (.interface ms)):
  ∃te pe,W.cell? ⟨g,0,none⟩=some (.iface te pe):=by
 obtain⟨g',t',cs,fuel,p,hg',ht',hv,hd⟩:=h
 obtain rfl:=Option.some.inj (hg.symm.trans hg')
 obtain rfl:=Option.some.inj (ht.symm.trans ht')
 obtain⟨f1,u,v,hcs,_,_⟩:=iface_of_trod hi hd
 refine⟨u,v,?_⟩
 rw[World.var?_cell hg hv 0,←Array.getElem?_toList,hcs]
 rfl
theorem glOk{W:World}(hs:W.ShapedOpen Tryz.prog)(hL:laidMetH Tryz.prog Rows.exprMovedUptoRow.laid W):GlOk (glW W):=by
 have hL':laidMet Tryz.prog Rows.exprMovedUptoRow.laid W:=hL
 have rd:=fun {n:String} {d:DataW Unit} (hm:(n,d)∈Rows.exprMovedUptoRow.laid)=>Lib.laidMet.reads hL' hm
 have hU:Lib.Utf8Tabs (Tryz.lays230_ren.g 3) (Tryz.lays230_ren.g 4) W:=
  utf8Tabs_of_reads (ρ:=Tryz.lays230_ren) {Tryz.lays230 with} ⟨by kernel_rfl,by kernel_rfl,by kernel_rfl,by kernel_rfl,by kernel_rfl,by kernel_rfl,by kernel_rfl⟩
   (rd (d:=Lib.firstData) (by rw[show(Lib.firstData:DataW Unit)=Rows.laid_unicode_utf8_first by kernel_rfl];simp[Rows.exprMovedUptoRow])) (rd (d:=Lib.acceptData) (by rw[show(Lib.acceptData:DataW Unit)=Rows.laid_unicode_utf8_acceptRanges by kernel_rfl];simp[Rows.exprMovedUptoRow]))
 have hsy:∃te pe,W.cell? ⟨Tryz.laysC174_ren.g 15,0,none⟩=some (.iface te pe):=
  iface_cell (rd (n:= "strconv.ErrSyntax") (d:=Rows.laid_strconv_ErrSyntax) (by simp[Rows.exprMovedUptoRow])) (ti:=gty (Tryz.laysC174_ren.g 15)) (ms:=mths (gty (Tryz.laysC174_ren.g 15))) (by kernel_rfl) (by kernel_rfl) (by kernel_rfl)
 have hrg:∃te pe,W.cell? ⟨Tryz.laysC174_ren.g 16,0,none⟩=some (.iface te pe):=
  iface_cell (rd (n:= "strconv.ErrRange") (d:=Rows.laid_strconv_ErrRange) (by simp[Rows.exprMovedUptoRow])) (ti:=gty (Tryz.laysC174_ren.g 16)) (ms:=mths (gty (Tryz.laysC174_ren.g 16))) (by kernel_rfl) (by kernel_rfl) (by kernel_rfl)
 refine⟨fun w h=>?_,fun w h=>?_,fun w h=>?_,fun w h=>?_,fun w h=>?_⟩
 ·obtain⟨g,t,cs,fuel,p,hg,ht,hv,hd⟩:=rd (n:= "internal/strconv.uint64pow10") (d:=Rows.laid_internal_strconv_uint64pow10) (by simp[Rows.exprMovedUptoRow])
  have eg:Tryz.prog.globalNamed "internal/strconv.uint64pow10" = some (Tryz.laysC174_ren.g 17):=by kernel_rfl
  obtain rfl:=Option.some.inj (eg.symm.trans hg)
  obtain rfl:=Option.some.inj ((show(Tryz.prog.globals[Tryz.laysC174_ren.g 17]?).map (·.type)=some (gty (Tryz.laysC174_ren.g 17)) by kernel_rfl).symm.trans ht)
  rw[show(Rows.laid_internal_strconv_uint64pow10:DataW Unit)=tabData .u64 Lib.pow10Tab by kernel_rfl]at hd
  have hcs:=cells_of_tab (e:=elemOf (gty (Tryz.laysC174_ren.g 17))) (n:=20) (by kernel_rfl) (by kernel_rfl) (by kernel_rfl) (by kernel_rfl) hd
  refine var_agree h eg (by decide +kernel) ?_
  rw[hv,←hcs]
 ·obtain⟨m,hm⟩:=cell_of_shapedOpen_int (g:=Tryz.lays145_ren.g 1) (t:=gty (Tryz.lays145_ren.g 1)) (zero:=#[.int .i64 0]) (k:=.i64) hs (by decide +kernel) (by kernel_rfl) rfl (by kernel_rfl) (by kernel_rfl) (by kernel_rfl)
  exact⟨m,cell_agree h (by decide +kernel) hm⟩
 ·exact⟨fun c hc=>cell_agree h (by decide +kernel) (hU.1 c hc),fun i hi=>⟨cell_agree h (by decide +kernel) (hU.2 i hi).1,cell_agree h (by decide +kernel) (hU.2 i hi).2⟩⟩
 ·obtain⟨te,pe,e⟩:=hsy
  exact⟨te,pe,cell_agree h (by decide +kernel) e⟩
 ·obtain⟨te,pe,e⟩:=hrg
  exact⟨te,pe,cell_agree h (by decide +kernel) e⟩
theorem dty:dataTyB Tryz.prog [2,3,4,5,9,23,25,26,28,29]=true:=by kernel_rfl
theorem dna:noArrB Tryz.prog [2,3,4,5,9,23,25,26,28,29]=true:=by kernel_rfl
theorem bulkOk(H:Type):BulkOk (Rows.uptoBulk (H:=H)) (Rows.uptoBulkAll (H:=H)) where
 one d:=by
  cases d with
  |lit l=>cases l<;>simp[Rows.uptoBulk]
  |nil=>simp[Rows.uptoBulk]
  |ptr d=>simp[Rows.uptoBulk]
  |slice elems spare=>simp[Rows.uptoBulk]
  |agg parts=>simp[Rows.uptoBulk]
  |iface t d=>simp[Rows.uptoBulk]
  |map entries=>simp[Rows.uptoBulk]
  |held h=>simp[Rows.uptoBulk]
 agg ps:=by simp only[Rows.uptoBulk];omega
 sl es sp:=by simp only[Rows.uptoBulk];omega
 nil:=by simp only[Rows.uptoBulkAll]
 cons d r:=by simp only[Rows.uptoBulkAll]
noncomputable def laidWorld(os:Os):World:=
 let w0:=World.doorLaid Tryz.prog 72 os
 {w0 with heap:=w0.heap.modify 2 fun
  | .cells _ t frozen=>.cells (Lib.firstTab.map fun z=>Value.int .u8 z).toArray t frozen
  |o=>o}
theorem laid_met(os:Os)(args:Array Value):laidMetH Tryz.prog Rows.exprMovedUptoRow.laid ((laidWorld os).forCall (fun _ _=>0) ⟨#[],args,[]⟩).memory:=
 laidMetH_of_parts3 (fuel:=8) (laidMet_of_run' 8 (by kernel_rfl) (by kernel_rfl)) (by kernel_rfl) (by kernel_rfl)
theorem moved_ct{gl:Nat→Option Obj}(G:GlOk gl)(rs:List R)(n:Nat)(hn:n≤1048576)(h:TyArgsN Tryz.prog Tryz.f3.params.toList rs n):Ct Tryz.prog gl 3 rs (gives [.d (.v (.bool true))]):=by
 rw[Tryz.params3]at h
 cases h with
 |cons h0 r0 s0 h=>
 cases h with
 |cons h1 r1 s1 h=>
 cases h with
 |cons h2 r2 s2 h=>
 cases h with
 |cons h3 r3 s3 h=>
 cases h
 obtain⟨x,rfl,hx⟩:=expr_data _ _ (Nat.lt_succ_self _) h0
 obtain⟨es1,hes1,rfl,hy⟩:=h1.sl_inv Tryz.underlying29
 obtain⟨row,rfl,hrow⟩:=vals_data hy
 obtain⟨a,ha,rfl⟩:=h2.int_inv Tryz.underlying5
 obtain⟨es2,hes2,rfl,hz⟩:=h3.sl_inv Tryz.underlying29
 obtain⟨other,rfl,hoth⟩:=vals_data hz
 unfold asR at r0 r1 r2 r3
 rw[Tryz.underlying28]at r0
 rw[Tryz.underlying29]at r1 r3
 rw[Tryz.underlying5]at r2
 have r0:_=R.agg _:=r0
 subst r0
 obtain⟨d,e,rfl⟩:=r1
 cases e
 obtain⟨d,e,rfl⟩:=r2
 cases e
 obtain⟨d,e,rfl⟩:=r3
 cases e
 have k1:=len_vals row
 have k2:=len_vals other
 have k3:IntKind.u8.min=0:=rfl
 simp only[dszL,dsz]at s1 s3
 exact ct1001 G x row other a hx hrow hoth (by omega) (by omega) (by omega)
theorem moved_lifted(os:Os)(started:os.Started)(H:Type)(enc:TypeId×Value→H)(F:Stop.Interp):
  ReturnsInHanded {} Tryz.checked os 3 .any ((Rows.OpenSpec.upto Rows.exprMovedSpec).preRow enc Tryz.prog Tryz.f3 Rows.exprMovedUptoRow.domain false Rows.exprMovedUptoRow.laid) (((Rows.OpenSpec.upto Rows.exprMovedSpec).at F).post enc Tryz.prog Tryz.f3 false true false false):=by
 refine returnsInHanded_of_row (C:=Tryz.checked) (s:=Rows.OpenSpec.upto Rows.exprMovedSpec) own started (by kernel_rfl) Tryz.func3
  (witness_row_atRef (enc:=enc) (C:=Tryz.checked) false (laidWorld os) #[.agg #[.int .i64 0,.int .i64 0,.int .i64 0,.int .i64 0,.int .i64 0,.int .i64 0,.bool false,.int .i64 0,.string ⟨#[]⟩,.slice none 0 0],.slice none 0 0,.int .u8 0,.slice none 0 0] rfl (by kernel_rfl) (by kernel_rfl) (by kernel_rfl)
   (OpenSpec.preRow_of_cond 8 (x:=([.agg [.lit (.int .i64 0),.lit (.int .i64 0),.agg [.lit (.int .i64 0),.lit (.int .i64 0)],.agg [.agg [.lit (.int .i64 0),.lit (.int .i64 0)],.lit (.bool false),.lit (.int .i64 0),.lit (.string [])],.nil],.nil,.lit (.int .u8 0),.nil],[],[])) (by kernel_rfl) (by kernel_rfl) (fun k hk=>by cases hk;kernel_rfl) (by kernel_rfl) (laid_met os _))) ?_
 intro W base args ds gs before hval0 hW _ hcond hsz hL hsh _
 have hsm:Rows.uptoSmall H (ds++gs)=true:=hcond _ rfl
 have hsm:Rows.uptoBulkAll (ds++gs)≤1048576:=of_decide_eq_true hsm
 refine upto_contract (bulkOk H) (S:=[2,3,4,5,9,23,25,26,28,29]) (tb:=4) dty dna laidOut (by kernel_rfl) (by kernel_rfl) (by kernel_rfl) Tryz.underlying4 rfl (fun ds hl=>?_) (moved_ct (glOk hsh hL)) W (fun b o h=>glW_in h) base args ds gs before hval0 hW hsz hsm
 have hl:ds.length=4:=by rw[hl,Tryz.params3];rfl
 match ds,hl with
 |[d0,d1,d2,d3],_=>rfl
noncomputable abbrev PP:Program:=Tryz.pinned.checked.prog
abbrev RW:OpenClaim:=Rows.exprMovedUptoRow
abbrev SB:ChangeSpec:=(Rows.OpenSpec.upto Rows.exprMovedSpec).bare
theorem fa1:(RW.inPlace==PP.inPlace 3)=true:=by kernel_rfl
theorem fa2:(RW.unfollowed==PP.unfollowed 3)=true:=by kernel_rfl
theorem fa3:(RW.recurses==PP.recurses 3)=true:=by kernel_rfl
theorem fa4:(RW.named==PP.varsNamed 3)=true:=by kernel_rfl
theorem fa5:laidOutB PP=true:=by kernel_rfl
theorem fa6:mapsRowed PP=true:=by kernel_rfl
theorem fa7:RW.wf (OpenSpec.ofChange SB)=true:=by kernel_rfl
theorem facts:joinedFacts PP 3 Tryz.f3 SB RW=true:=by
 unfold joinedFacts
 rw[fa1,fa2,fa3,fa4,fa5,fa6,fa7]
 kernel_rfl
theorem fnamed:PP.funcNamed RW.func=some 3:=by kernel_rfl
theorem finst:Tryz.f3.isInstance PP RW.origin RW.targs:=of_decide_eq_true (by kernel_rfl)
theorem fwrap:Tryz.f3.isWrapper PP RW.wrapper RW.mainSum:=by
 unfold Func.isWrapper;first|(rw[if_pos (by decide +kernel)];kernel_rfl)|(rw[if_neg (by decide +kernel)];exact⟨rfl,rfl⟩)
theorem moved_said:Rows.ExprMovedUptoSaid:=
 OpenClaim.holds_of_cond 3 Tryz.f3 rfl rfl rfl rfl rfl rfl rfl ⟨rfl,rfl,rfl,rfl,rfl⟩ rfl rfl rfl rfl rfl fnamed Tryz.func3 facts finst fwrap
  (fun os started H enc _ F=>by rw[OpenClaim.pre_eq_preRow];exact moved_lifted os started H enc F)
end Go.Proofs.YthhomimmnogngaaGreatDoor
