/- Part of the proof: contracts of functions; no condition. -/
import Derived.Test.YtabbmgfeemkkbaaGreatDoorG8
import Derived.Test.YtabbmgfeemkkbaaGreatDoorRows
import Derived.Test.YtabbmgfeemkkbaaGreatDoorTie
import Derived.Test.YtabbmgfeemkkbaaGreatDoorCards
import Derived.SevenTiedAt
import Derived.LaidMore
import Derived.Stop.Joined
import Derived.Lib.LaidU8
import Derived.Stop.LaidErr
import Derived.Shelf.Vars
namespace Go.Proofs.YtabbmgfeemkkbaaGreatDoor
open Go Go.Dm Go.Ex Go.Proofs.Tryz Go.Lib Go.Proofs
open Go.ChangeShapes Go.WideShapes Go.ChangeAt Go.RowKit
set_option maxRecDepth 100000
noncomputable def Wa(W:World):Nat→Option Obj:=fun b=>if b<Tryz.prog.globals.size then W.heap[b]? else none
theorem Wb{W:World}{b:Nat}{o:Obj}(h:Wa W b=some o):W.heap[b]? = some o:=by
 unfold Wa at h
 split at h
 ·exact h
 ·cases h
theorem gA{W w:World}(h:∀b o,Wa W b=some o→w.heap[b]? = some o){g i:Nat}{v:Value}(hg:g<Tryz.prog.globals.size)(hc:W.cell? ⟨g,i,none⟩=some v):w.cell? ⟨g,i,none⟩=some v:=by
 have hw:∀o,W.heap[g]? = some o→w.heap[g]? = some o:=fun o ho=>h g o (by unfold Wa;rw[if_pos hg];exact ho)
 unfold World.cell? at hc ⊢
 cases ho:W.heap[g]? with
 |none=>simp[ho]at hc
 |some o=>
  rw[hw o ho]
  rw[ho]at hc
  exact hc
theorem E6{W w:World}(h:∀b o,Wa W b=some o→w.heap[b]? = some o){n:String}{g:Nat}{cs:Array Value}(hn:Tryz.prog.globalNamed n=some g)(hg:g<Tryz.prog.globals.size)(hc:W.var? Tryz.prog n=some cs):w.var? Tryz.prog n=some cs:=by
 have hw:∀o,W.heap[g]? = some o→w.heap[g]? = some o:=fun o ho=>h g o (by unfold Wa;rw[if_pos hg];exact ho)
 unfold World.var? at hc ⊢
 rw[hn,Option.bind_some]at hc ⊢
 cases ho:W.heap[g]? with
 |none=>simp[ho]at hc
 |some o=>
  rw[hw o ho]
  rw[ho]at hc
  exact hc
noncomputable def ag2(t:TypeId):Array (String×TypeId):=match Tryz.prog.underlying t with|some (.interface ms)=>ms|_=>#[]
noncomputable def elemOf(t:TypeId):TypeId:=match Tryz.prog.underlying t with|some (.array _ e)=>e|_=>0
noncomputable def Wc(g:Nat):TypeId:=((Tryz.prog.globals[g]?).map (·.type)).getD 0
theorem th{W:World}{n nm:String}{d:DataW Unit}(h:VarReads Tryz.prog W n (.iface nm d)){g:Nat}{ti:TypeId}(hg:Tryz.prog.globalNamed n=some g)(ht:(Tryz.prog.globals[g]?).map (·.type)=some ti){ms}(hi:Tryz.prog.underlying ti=some (.interface ms)):
  ∃te pe,W.cell? ⟨g,0,none⟩=some (.iface te pe):=by
 obtain⟨g',t',cs,fuel,p,oT,zI,hv,hd⟩:=h
 obtain rfl:=Option.some.inj (hg.symm.trans oT)
 obtain rfl:=Option.some.inj (ht.symm.trans zI)
 obtain⟨f1,u,v,hO,_,_⟩:=iface_of_trod hi hd
 refine⟨u,v,?_⟩
 rw[World.var?_cell hg hv 0,←Array.getElem?_toList,hO]
 rfl
theorem anz{W:World}(hs:W.ShapedOpen Tryz.prog)(hL:laidMetH Tryz.prog Rows.rewriteFoldsRow.laid W):aZ (Wa W):=by
 have hL':laidMet Tryz.prog Rows.rewriteFoldsRow.laid W:=hL
 have rd:=fun {n:String} {d:DataW Unit} (hm:(n,d)∈Rows.rewriteFoldsRow.laid)=>Lib.laidMet.reads hL' hm
 have hU:Lib.Utf8Tabs (Tryz.eA.g 3) (Tryz.eA.g 4) W:=
  utf8Tabs_of_reads (ρ:=Tryz.eA) {Tryz.Dc with} ⟨by kernel_rfl,by kernel_rfl,by kernel_rfl,by kernel_rfl,by kernel_rfl,by kernel_rfl,by kernel_rfl⟩
   (rd (d:=Lib.firstData) (by rw[show(Lib.firstData:DataW Unit)=Rows.laid_unicode_utf8_first by kernel_rfl];simp[Rows.rewriteFoldsRow])) (rd (d:=Lib.acceptData) (by rw[show(Lib.acceptData:DataW Unit)=Rows.laid_unicode_utf8_acceptRanges by kernel_rfl];simp[Rows.rewriteFoldsRow]))
 have hsy:∃te pe,W.cell? ⟨Tryz.bV.g 15,0,none⟩=some (.iface te pe):=
  th (rd (n:= "strconv.ErrSyntax") (d:=Rows.laid_strconv_ErrSyntax) (by simp[Rows.rewriteFoldsRow])) (ti:=Wc (Tryz.bV.g 15)) (ms:=ag2 (Wc (Tryz.bV.g 15))) (by kernel_rfl) (by kernel_rfl) (by kernel_rfl)
 have hrg:∃te pe,W.cell? ⟨Tryz.bV.g 16,0,none⟩=some (.iface te pe):=
  th (rd (n:= "strconv.ErrRange") (d:=Rows.laid_strconv_ErrRange) (by simp[Rows.rewriteFoldsRow])) (ti:=Wc (Tryz.bV.g 16)) (ms:=ag2 (Wc (Tryz.bV.g 16))) (by kernel_rfl) (by kernel_rfl) (by kernel_rfl)
 refine⟨fun w h=>?_,fun w h=>?_,fun w h=>?_,fun w h=>?_,fun w h=>?_⟩
 ·obtain⟨g,t,cs,fuel,p,hg,ht,hv,hd⟩:=rd (n:= "internal/strconv.uint64pow10") (d:=Rows.laid_internal_strconv_uint64pow10) (by simp[Rows.rewriteFoldsRow])
  have eg:Tryz.prog.globalNamed "internal/strconv.uint64pow10" = some (Tryz.bV.g 17):=by kernel_rfl
  obtain rfl:=Option.some.inj (eg.symm.trans hg)
  obtain rfl:=Option.some.inj ((show(Tryz.prog.globals[Tryz.bV.g 17]?).map (·.type)=some (Wc (Tryz.bV.g 17)) by kernel_rfl).symm.trans ht)
  rw[show(Rows.laid_internal_strconv_uint64pow10:DataW Unit)=tabData .u64 Lib.pow10Tab by kernel_rfl]at hd
  have hO:=cells_of_tab (e:=elemOf (Wc (Tryz.bV.g 17))) (n:=20) (by kernel_rfl) (by kernel_rfl) (by kernel_rfl) (by kernel_rfl) hd
  refine E6 h eg (by decide +kernel) ?_
  rw[hv,←hO]
 ·obtain⟨m,hm⟩:=cell_of_shapedOpen_int (g:=Tryz.jy.g 1) (t:=Wc (Tryz.jy.g 1)) (zero:=#[.int .i64 0]) (k:=.i64) hs (by decide +kernel) (by kernel_rfl) rfl (by kernel_rfl) (by kernel_rfl) (by kernel_rfl)
  exact⟨m,gA h (by decide +kernel) hm⟩
 ·exact⟨fun c hc=>gA h (by decide +kernel) (hU.1 c hc),fun i hi=>⟨gA h (by decide +kernel) (hU.2 i hi).1,gA h (by decide +kernel) (hU.2 i hi).2⟩⟩
 ·obtain⟨te,pe,e⟩:=hsy
  exact⟨te,pe,gA h (by decide +kernel) e⟩
 ·obtain⟨te,pe,e⟩:=hrg
  exact⟨te,pe,gA h (by decide +kernel) e⟩
theorem dty:qI Tryz.prog [2,3,4,9,23,25,26,28,37,29,107]=true:=by kernel_rfl
noncomputable def wk(os:Os):World:=
 let w0:=World.doorLaid Tryz.prog 72 os
 {w0 with heap:=w0.heap.modify 0 fun
  | .cells _ t frozen=>.cells (Lib.firstTab.map fun z=>Value.int .u8 z).toArray t frozen
  |o=>o}
theorem NH(os:Os)(args:Array Value):laidMetH Tryz.prog Rows.rewriteFoldsRow.laid ((wk os).forCall (fun _ _=>0) ⟨#[],args,[]⟩).memory:=
 laidMetH_of_parts3 (fuel:=8) (laidMet_of_run' 8 (by kernel_rfl) (by kernel_rfl)) (by kernel_rfl) (by kernel_rfl)
theorem tj:∀{es:List (List D)},(∀r∈es,lz Tryz.prog 23 r)→∃l:List Ty,es=l.map Ty.cs
 |[],_=>⟨[],rfl⟩
 |r::es,h=>by
  obtain⟨t,rfl,_,_⟩:=sC (h r (by simp))
  obtain⟨l,rfl⟩:=tj (es:=es) (fun r hr=>h r (List.mem_cons_of_mem _ hr))
  exact⟨t::l,rfl⟩
theorem NI{gl:Nat→Option Obj}(G:aZ gl)(rs:List R)(h:lB Tryz.prog Tryz.f3.params.toList rs):Ct Tryz.prog gl 3 rs (gives [.d (.v (.bool true))]):=by
 rw[Tryz.params3]at h
 cases h with
 |cons h0 r0 h=>
 cases h with
 |cons h1 r1 h=>
 cases h
 obtain⟨x,rfl,hx⟩:=uF _ _ (Nat.lt_succ_self _) h0
 obtain⟨es,qy,rfl,hz⟩:=h1.IH Tryz.underlying29
 obtain⟨ae,rfl⟩:=tj hz
 unfold WH at r0 r1
 rw[Tryz.underlying28]at r0
 rw[Tryz.underlying29]at r1
 have r0:_=R.agg _:=r0
 subst r0
 obtain⟨d,e,rfl⟩:=r1
 cases e
 have b25:Tryz.prog.bytesOf 23=16:=by kernel_rfl
 have rb:reachBytes=140737488351232:=rfl
 rw[b25,rb,List.length_map]at qy
 exact ct4 G x ae hx (by omega)
theorem handed{H:Type}{enc:TypeId×Value→H}{a:Assume}{C:Checked}{os:Os}{f:FuncId}{fn:Func}{s:ChangeSpec}{conds:List PathCond}{apart fresh handsOn again:Bool}{X:World→Array Value→Prop}
  (hX:∀(w w':World) (args:Array Value),w.heap=w'.heap→X w args→X w' args)
  (own:ownKnob C.prog.godebug=none) (started:os.Started) (Wd:C.prog.inits.idxOf? f=none) (Rh:C.prog.funcs[f]? = some fn)
  (witness:∃(w:World) (tape:Tape) (i:Input),w.os=os∧(w.forCall tape i).Shaped C.prog∧i.vars=[]∧Input.okWide C.prog (w.forCall tape i) .any w.heap.size f i∧
   ((s.pre enc C.prog fn conds apart (w.forCall tape i).memory i.args∧X (w.forCall tape i).memory i.args)∧sizedMet enc C.prog fn (OpenSpec.ofChange s) apart (w.forCall tape i).memory i.args)∧a.holds C.prog (lone (Frame.enter C.prog f i.args .normal) [] (w.forCall tape i)))
  (NJ:∀(W:World) (base:Nat) (args:Array Value) (ds gs:List (DataW H)) (before:List MemPlace),
   (∀(j:Nat) t v,fn.params[j]? = some t→args[j]? = some v→Value.okWide C.prog W .any base t v)→
   DataW.Whole enc C.prog fn.params.toList s.vars apart W args.toList ds gs before→
   (DataW.weightsEach C.prog (fn.params.toList++s.plain.varTypes C.prog) (ds++gs)).all (·≤reachBytes)=true→X W args→W.ShapedOpen C.prog→
   Calls C.prog f args W fun e W'=>∃v,e = .returned v∧s.post enc C.prog fn apart fresh handsOn again W args v W'):
  ReturnsInHanded a C os f .any (fun w args=>(s.pre enc C.prog fn conds apart w args∧X w args)∧sizedMet enc C.prog fn (OpenSpec.ofChange s) apart w args) (s.post enc C.prog fn apart fresh handsOn again):=by
 refine returnsInHanded_of_calls own started Wd witness ?_
 intro w tape i _ hsh _ fQ anB _
 obtain⟨_,_,_,fn',anC,_,_,_,_,kA⟩:=fQ
 have e:fn'=fn:=Option.some.inj (anC.symm.trans Rh)
 subst e
 obtain⟨⟨⟨ds,gs,before,hw,hc⟩,hx⟩,hz⟩:=anB
 have hw':=DataW.Whole.of_heap (w':=w.forCall tape i) (by rfl) hw
 refine(NJ (w.forCall tape i) w.heap.size i.args ds gs before kA hw' (hz.weights hw) (hX _ _ _ (by rfl) hx) hsh).mono fun e W' ⟨v,he,hp⟩=>?_
 subst he
 exact ChangeSpec.post_blind hp
theorem xL(os:Os)(started:os.Started)(H:Type)(enc:TypeId×Value→H):
  ReturnsInHanded {} Tryz.checked os 3 .any (fun w args=>(Rows.rewriteFoldsSpec.pre enc Tryz.prog Tryz.f3 [] false w args∧laidMetH Tryz.prog Rows.rewriteFoldsRow.laid w)∧sizedMet enc Tryz.prog Tryz.f3 (OpenSpec.ofChange Rows.rewriteFoldsSpec) false w args)
   (Rows.rewriteFoldsSpec.post enc Tryz.prog Tryz.f3 false true false false):=by
 refine handed (C:=Tryz.checked) (X:=fun w _=>laidMetH Tryz.prog Rows.rewriteFoldsRow.laid w) (fun _ _ _ hh h=>h.of_heap hh) own started (by kernel_rfl) Tryz.func3
  (ChangeSpec.witness_shaped (enc:=enc) (C:=Tryz.checked) (os:=os) (X:=fun w _=>laidMetH Tryz.prog Rows.rewriteFoldsRow.laid w) false (wk os) #[.agg #[.int .i64 0,.int .i64 0,.int .i64 0,.int .i64 0,.int .i64 0,.int .i64 0,.bool false,.int .i64 0,.string ⟨#[]⟩,.slice none 0 0],.slice none 0 0] 8 rfl (World.shaped_of_RefB (by kernel_rfl) (by kernel_rfl)) (by kernel_rfl) (by kernel_rfl) (by kernel_rfl) (NH os _)) ?_
 intro W base args ds gs before ag3 hW hsz hL hsh
 refine tO (S:=[2,3,4,9,23,25,26,28,37,29,107]) (tb:=4) dty laidOut (by kernel_rfl) (by kernel_rfl) (by kernel_rfl) Tryz.underlying4 rfl (fun ds hl=>?_) (NI (anz hsh hL)) W (fun b o h=>Wb h) base args ds gs before ag3 hW hsz
 have hl:ds.length=2:=by rw[hl,Tryz.params3];rfl
 match ds,hl with
 |[d0,d1],_=>rfl
theorem Ch:Rows.RewriteFoldsSaid:=
 OpenClaim.holds_of_wide 3 Tryz.f3 rfl rfl rfl rfl rfl rfl rfl ⟨rfl,rfl,rfl,rfl,rfl⟩ rfl rfl rfl rfl rfl (by kernel_rfl) Tryz.func3 (by kernel_rfl)
  (of_decide_eq_true (by kernel_rfl)) (by unfold Func.isWrapper;first|(rw[if_pos (by decide +kernel)];kernel_rfl)|(rw[if_neg (by decide +kernel)];exact⟨rfl,rfl⟩))
  (fun os started H enc _=>xL os started H enc)
theorem rewrite_folds:Rows.RewriteFoldsCardSaid:=
 Claim7.holds_tied_plain_at .later [] [.data,.data,.data,.data,.sentinel,.sentinel,.pinned] true (true,"909a184bc5a7548390d2735e8d8e0144e8ab06b17aa8f0347a2959e470db1e80") true
  Ch (fun _ h=>by cases h) (by kernel_rfl) (fun _ h=>by cases h) rewriteFolds_row_tie rfl ⟨rfl,rfl⟩ (by kernel_rfl) rfl
  (fun f fn hf Rh=>by
   obtain rfl:f=3:=Option.some.inj ((show Tryz.prog.funcNamed "colonnade/colonnadelaw20.RewriteFolds" = some 3 by kernel_rfl).symm.trans hf) |>.symm
   obtain rfl:fn=Tryz.f3:=(Option.some.inj (Tryz.func3.symm.trans Rh)).symm
   exact⟨by kernel_rfl,fun j t ht=>by
    rw[Tryz.params3]at ht
    have h3:t=28∨t=29:=by
     rcases j with _|_|j
     ·exact .inl (by simpa using ht.symm)
     ·exact .inr (by simpa using ht.symm)
     ·simp at ht
    rcases h3 with rfl|rfl
    ·exact(show Tryz.prog.wantsStandIn 28=false by kernel_rfl)
    ·exact(show Tryz.prog.wantsStandIn 29=false by kernel_rfl)⟩)
  (by kernel_rfl)
#print axioms rewrite_folds
end Go.Proofs.YtabbmgfeemkkbaaGreatDoor
