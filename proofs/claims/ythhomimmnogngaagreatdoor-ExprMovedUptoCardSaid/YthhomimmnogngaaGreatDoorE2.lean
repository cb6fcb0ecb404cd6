/- A part of the proof: contracts of functions, by a verified generator of conditions; no condition of its own. -/
import Derived.Test.YthhomimmnogngaaGreatDoorSb2
import Derived.Test.YthhomimmnogngaaGreatDoorE1
import Derived.Test.YthhomimmnogngaaGreatDoorVc
import Derived.Test.YthhomimmnogngaaGreatDoorSl
import Derived.Lib.AppendIntMem
import Derived.Lib.AtoiErrMem
import Derived.Shelf.Strings.Repeat
import Derived.Lib.SplitLaws
namespace Go.Proofs.Tryz
open Go Go.Dm Go.Ex
set_option maxRecDepth 100000
variable {gl:Nat→Option Obj}
structure GlOk (gl:Nat→Option Obj):Prop where
 pow:∀w:World,(∀b o,gl b=some o→w.heap[b]? = some o)→Lib.TabIs prog w "internal/strconv.uint64pow10" .u64 Lib.pow10Tab
 mlen:∀w:World,(∀b o,gl b=some o→w.heap[b]? = some o)→∃m:Int,w.cell? ⟨Tryz.lays145_ren.g 1,0,none⟩=some (.int .i64 m)
 utf:∀w:World,(∀b o,gl b=some o→w.heap[b]? = some o)→Lib.Utf8Tabs (Tryz.lays230_ren.g 3) (Tryz.lays230_ren.g 4) w
 syn:∀w:World,(∀b o,gl b=some o→w.heap[b]? = some o)→∃te pe,w.cell? ⟨Tryz.laysC174_ren.g 15,0,none⟩=some (.iface te pe)
 rng:∀w:World,(∀b o,gl b=some o→w.heap[b]? = some o)→∃te pe,w.cell? ⟨Tryz.laysC174_ren.g 16,0,none⟩=some (.iface te pe)
theorem upd_grow(w:World)(k:Nat)(os:Array Obj):Upd [] w.heap.size w (Go.Sort.grow (w.drewN k) os):=Below.upd (Lib.below_grow _ w (Nat.le_refl _) k os)
theorem upd_bytes{w w':World}{e:TypeId}(h:w'=w∨∃t,w'=Lib.bytesWorld w e t):Upd [] w.heap.size w w':=by
 rcases h with rfl|⟨t,rfl⟩
 ·exact Upd.refl _ _ _
 ·exact Below.upd (Lib.bytesWorld_below w e t)
theorem upd_drew(w:World)(n:Nat):Upd [] w.heap.size w (w.drewN n):=⟨rfl,rfl,rfl,Nat.le_refl _,fun _ _ _=>rfl⟩
def c_210i(a:List R)(K:KT):Prop:=match a with
 |[.d (.v (.int .i64 n)),.d (.v (.int .i64 b))]=>b=10∧in64 n∧K [.d (.v (.string (tx (Lib.itoa n))))] []
 |_=>False
theorem c_210i_ok(G:GlOk gl)(a:List R)(K:KT)(h:c_210i a K):Ct prog gl 49 a K:=by
 unfold c_210i at h
 split at h
 ·obtain⟨rfl,h1,h2⟩:=h
  refine Ct.gives (ct_lib (fnOk_of func49 (by kernel_rfl) (by kernel_rfl)) (.v (.v .nil)) (ds:=[.v (.string (tx (Lib.itoa _)))]) fun w hg=>?_) h2
  refine(Any.strconv_FormatInt_10 Tryz.laysM173 _ h1.1 (by have:=h1.2;omega) w (G.pow w hg)).mono fun e w' ⟨he,k,os,hw⟩=>⟨[_],he,rfl,one (rdA_v rfl),by rw[hw];exact upd_grow _ _ _⟩
 ·exact h.elim
def C_t210i:CallT:=addC C_t382 49 c_210i
theorem C_t210i_ok(G:GlOk gl):CallsOk prog gl C_t210i:=addC_ok C_t382_ok (c_210i_ok G)
def c_280(a:List R)(K:KT):Prop:=match a with
 |[.d (.v (.int .i64 n))]=>in64 n∧K [.d (.v (.string (tx (Lib.itoa n))))] []
 |_=>False
theorem c_280_ok(G:GlOk gl)(a:List R)(K:KT)(h:c_280 a K):Ct prog gl 90 a K:=by
 unfold c_280 at h
 split at h
 ·obtain⟨h1,h2⟩:=h
  refine Ct.gives (ct_lib (fnOk_of func90 (by kernel_rfl) (by kernel_rfl)) (.v .nil) (ds:=[.v (.string (tx (Lib.itoa _)))]) fun w hg=>?_) h2
  refine(Any.strconv_Itoa Tryz.laysM171 _ h1.1 (by have:=h1.2;omega) w (G.pow w hg)).mono fun e w' ⟨he,k,os,hw⟩=>⟨[_],he,rfl,one (rdA_v rfl),by rw[hw];exact upd_grow _ _ _⟩
 ·exact h.elim
def C_t280:CallT:=addC C_t210i 90 c_280
theorem C_t280_ok(G:GlOk gl):CallsOk prog gl C_t280:=addC_ok (C_t210i_ok G) (c_280_ok G)
def c_425(a:List R)(K:KT):Prop:=match a with
 |[.d (.v (.string s)),.d (.v (.string c))]=>c=tx digL∧s.size≤9223372036854775807∧K [.d (.v (.string (tx (Lib.trimS s.data.toList digL))))] []
 |_=>False
theorem c_425_ok(G:GlOk gl)(a:List R)(K:KT)(h:c_425 a K):Ct prog gl 176 a K:=by
 unfold c_425 at h
 split at h
 ·obtain⟨rfl,h1,h2⟩:=h
  refine Ct.gives (ct_lib (fnOk_of func176 (by kernel_rfl) (by kernel_rfl)) (.v (.v .nil)) (ds:=[.v (.string (tx (Lib.trimS _ digL)))]) fun w hg=>?_) h2
  refine(Any.strings_Trim_laid Tryz.lays160 (by kernel_rfl) _ (tx digL) w h1 (by decide) (fun j b hb=>?_)).mono fun e w' ⟨he,hw⟩=>⟨[_],he,rfl,one (rdA_v rfl),Below.upd hw⟩
  have:b∈digL:=List.mem_of_getElem? hb
  revert this
  unfold digL
  simp only[List.mem_cons,List.not_mem_nil,or_false]
  rintro(rfl|rfl|rfl|rfl|rfl|rfl|rfl|rfl|rfl|rfl)<;>decide
 ·exact h.elim
def C_t425:CallT:=addC C_t280 176 c_425
theorem C_t425_ok(G:GlOk gl):CallsOk prog gl C_t425:=addC_ok (C_t280_ok G) (c_425_ok G)
def c_342(a:List R)(K:KT):Prop:=match a with
 |[.d (.v (.string s)),.d (.v (.int .i64 n))]=>0≤n∧n≤1000∧s.size≤1000∧K [.d (.v (.string (tx (Lib.repeatL s.data.toList n.toNat))))] []
 |_=>False
theorem c_342_ok(G:GlOk gl)(a:List R)(K:KT)(h:c_342 a K):Ct prog gl 121 a K:=by
 unfold c_342 at h
 split at h
 ·rename_i s n
  obtain⟨h0,h1,h2,h3⟩:=h
  obtain⟨m,rfl⟩:=Int.eq_ofNat_of_zero_le h0
  refine Ct.gives (ct_lib (fnOk_of func121 (by kernel_rfl) (by kernel_rfl)) (.v (.v .nil)) (ds:=[.v (.string (tx (Lib.repeatL s.data.toList m)))]) fun w hg=>?_) h3
  have hm:m≤1000:=by omega
  have:s.size*m≤1000*1000:=Nat.mul_le_mul h2 hm
  refine(Any.strings_Repeat Tryz.lays105 Tryz.Builder_Extra_105 s m w (by omega) (by omega)).mono fun e w' ⟨he,hw⟩=>⟨[_],he,rfl,one (rdA_v rfl),Below.upd hw⟩
 ·exact h.elim
def C_t342:CallT:=addC C_t425 121 c_342
theorem C_t342_ok(G:GlOk gl):CallsOk prog gl C_t342:=addC_ok (C_t425_ok G) (c_342_ok G)
def c_211(a:List R)(K:KT):Prop:=match a with
 |[.d (.v (.string s)),.d (.v (.string o)),.d (.v (.string n))]=>s.size≤1000∧o.size=1∧n.size=2∧K [.d (.v (.string (tx (Lib.replaceAll s.data.toList o.data.toList n.data.toList))))] []
 |_=>False
theorem count_le(s o:ByteArray)(h:o.size=1):Lib.countB s o≤s.size:=Lib.countB_le o (by omega) s.size s (Nat.le_refl _)
theorem c_211_ok(G:GlOk gl)(a:List R)(K:KT)(h:c_211 a K):Ct prog gl 50 a K:=by
 unfold c_211 at h
 split at h
 ·rename_i s o n
  obtain⟨h1,h2,h3,h4⟩:=h
  refine Ct.gives (ct_lib (fnOk_of func50 (by kernel_rfl) (by kernel_rfl)) (.v (.v (.v .nil))) (ds:=[.v (.string (tx (Lib.replaceAll s.data.toList o.data.toList n.data.toList)))]) fun w hg=>?_) h4
  obtain⟨m,hm⟩:=G.mlen w hg
  have:=count_le s o h2
  refine(Any.strings_ReplaceAll Tryz.lays155 Tryz.Builder_Extra_155 s o n m w (by omega) hm (by omega) (by rw[h3];omega)).mono fun e w' ⟨he,hw⟩=>⟨[_],he,rfl,one (rdA_v rfl),Below.upd hw⟩
 ·exact h.elim
def C_t211:CallT:=addC C_t342 50 c_211
theorem C_t211_ok(G:GlOk gl):CallsOk prog gl C_t211:=addC_ok (C_t342_ok G) (c_211_ok G)
def c_380(a:List R)(K:KT):Prop:=match a with
 |[.d (.v (.string s)),.d (.v (.string o))]=>s.size≤1000∧K [.d (.v (.string (tx (Lib.cut s.data.toList o.data.toList).1))),.d (.v (.string (tx (Lib.cut s.data.toList o.data.toList).2.1))),.d (.v (.bool (Lib.cut s.data.toList o.data.toList).2.2))] []
 |_=>False
theorem c_380_ok(G:GlOk gl)(a:List R)(K:KT)(h:c_380 a K):Ct prog gl 160 a K:=by
 unfold c_380 at h
 split at h
 ·rename_i s o
  obtain⟨h1,h2⟩:=h
  refine Ct.gives (ct_lib (fnOk_of func160 (by kernel_rfl) (by kernel_rfl)) (.v (.v .nil)) (ds:=[.v (.string (tx (Lib.cut s.data.toList o.data.toList).1)),.v (.string (tx (Lib.cut s.data.toList o.data.toList).2.1)),.v (.bool (Lib.cut s.data.toList o.data.toList).2.2)]) fun w hg=>?_) h2
  obtain⟨m,hm⟩:=G.mlen w hg
  refine(Any.strings_Cut Tryz.lays145 s o m w (by omega) hm).mono fun e w' ⟨he,n,hw⟩=>⟨[_,_,_],he,rfl,three (rdA_v rfl) (rdA_v rfl) (rdA_v rfl),by rw[hw];exact upd_drew _ _⟩
 ·exact h.elim
def C_t380:CallT:=addC C_t211 160 c_380
theorem C_t380_ok(G:GlOk gl):CallsOk prog gl C_t380:=addC_ok (C_t211_ok G) (c_380_ok G)
def c_379(a:List R)(K:KT):Prop:=match a with
 |[.d (.v (.string s)),.d (.v (.int .i64 b)),.d (.v (.int .i64 z))]=>b=10∧z=64∧s.size≤1000∧(pOk s.data.toList=true→K [.d (.v (.int .i64 (pVal s.data.toList))),.d (.v .nilIface)] [])∧(pOk s.data.toList=false→K [.d (.v (.int .i64 (pVal s.data.toList))),.d .opq] [])
 |_=>False
theorem c_379_ok(G:GlOk gl)(a:List R)(K:KT)(h:c_379 a K):Ct prog gl 159 a K:=by
 unfold c_379 at h
 split at h
 ·rename_i s b z
  obtain⟨rfl,rfl,h1,h2,h3⟩:=h
  have hf:FnOk prog 159:=fnOk_of func159 (by kernel_rfl) (by kernel_rfl)
  cases hp:Lib.parseIntB 64 s.data.toList with
  |ok v=>
   have e1:pOk s.data.toList=true:=by unfold pOk;rw[hp]
   have e2:pVal s.data.toList=v:=by unfold pVal;rw[hp]
   refine Ct.gives (ct_lib hf (.v (.v (.v .nil))) (ds:=[.v (.int .i64 v),.v .nilIface]) fun w hg=>?_) (by have:=h2 e1;rw[e2]at this;exact this)
   exact(Any.strconv_ParseInt_10_at64_ok Tryz.laysC174 s (by omega) v hp w).mono fun e w' ⟨he,hw⟩=>⟨[_,_],he,rfl,two (rdA_v rfl) (rdA_v rfl),upd_bytes hw⟩
  |range=>
   have e1:pOk s.data.toList=false:=by unfold pOk;rw[hp]
   have e2:pVal s.data.toList=Lib.intSat 64 s.data.toList:=by unfold pVal;rw[hp]
   refine Ct.gives (ct_lib hf (.v (.v (.v .nil))) (ds:=[.v (.int .i64 (Lib.intSat 64 s.data.toList)),.opq]) fun w hg=>?_) (by have:=h3 e1;rw[e2]at this;exact this)
   obtain⟨te,pe,hv⟩:=G.rng w hg
   exact(Any.strconv_ParseInt_10_at64_range Tryz.laysC174 s (by omega) hp _ w hv (.inr ⟨_,_,rfl⟩)).mono fun e w' ⟨N,he,_,_,hw⟩=>⟨[_,_],he,rfl,two (rdA_v rfl) rdA_opq,Below.upd hw⟩
  |_=>
   have e1:pOk s.data.toList=false:=by unfold pOk;rw[hp]
   have e2:pVal s.data.toList=0:=by unfold pVal;rw[hp]
   refine Ct.gives (ct_lib hf (.v (.v (.v .nil))) (ds:=[.v (.int .i64 0),.opq]) fun w hg=>?_) (by have:=h3 e1;rw[e2]at this;exact this)
   obtain⟨te,pe,hv⟩:=G.syn w hg
   exact(Any.strconv_ParseInt_10_at64_syntax Tryz.laysC174 s (by omega) hp _ w hv (.inr ⟨_,_,rfl⟩)).mono fun e w' ⟨N,he,_,_,hw⟩=>⟨[_,_],he,rfl,two (rdA_v rfl) rdA_opq,Below.upd hw⟩
 ·exact h.elim
def C_t379:CallT:=addC C_t380 159 c_379
theorem C_t379_ok(G:GlOk gl):CallsOk prog gl C_t379:=addC_ok (C_t380_ok G) (c_379_ok G)
def c_381(a:List R)(K:KT):Prop:=match a with
 |[.d (.v (.string s))]=>∃v:Int,s.size≤1000∧Lib.atoiAll s.data.toList = .ok v∧K [.d (.v (.int .i64 v)),.d (.v .nilIface)] []
 |_=>False
theorem c_381_ok(G:GlOk gl)(a:List R)(K:KT)(h:c_381 a K):Ct prog gl 161 a K:=by
 unfold c_381 at h
 split at h
 ·rename_i s
  obtain⟨v,h1,h2,h3⟩:=h
  refine Ct.gives (ct_lib (fnOk_of func161 (by kernel_rfl) (by kernel_rfl)) (.v .nil) (ds:=[.v (.int .i64 v),.v .nilIface]) fun w hg=>?_) h3
  exact(Any.strconv_Atoi_ok Tryz.laysC172 s (by omega) v h2 w).mono fun e w' ⟨he,hw⟩=>⟨[_,_],he,rfl,two (rdA_v rfl) (rdA_v rfl),upd_bytes hw⟩
 ·exact h.elim
def C_t381:CallT:=addC C_t379 161 c_381
theorem C_t381_ok(G:GlOk gl):CallsOk prog gl C_t381:=addC_ok (C_t379_ok G) (c_381_ok G)
end Go.Proofs.Tryz
