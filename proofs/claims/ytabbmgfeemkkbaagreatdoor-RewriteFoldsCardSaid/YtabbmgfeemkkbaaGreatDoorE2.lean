/- Part of the proof: contracts of functions; no condition. -/
import Derived.Test.YtabbmgfeemkkbaaGreatDoorSb2
import Derived.Lib.AppendIntMem
import Derived.Lib.AtoiErrMem
import Derived.Shelf.Strings.Repeat
import Derived.Lib.SplitLaws
namespace Go.Proofs.Tryz
open Go Go.Dm Go.Ex
set_option maxRecDepth 100000
variable {gl:Nat→Option Obj}
structure aZ (gl:Nat→Option Obj):Prop where
 pow:∀w:World,(∀b o,gl b=some o→w.heap[b]? = some o)→Lib.TabIs prog w "internal/strconv.uint64pow10" .u64 Lib.pow10Tab
 aej:∀w:World,(∀b o,gl b=some o→w.heap[b]? = some o)→∃m:Int,w.cell? ⟨Tryz.jy.g 1,0,none⟩=some (.int .i64 m)
 utf:∀w:World,(∀b o,gl b=some o→w.heap[b]? = some o)→Lib.Utf8Tabs (Tryz.eA.g 3) (Tryz.eA.g 4) w
 syn:∀w:World,(∀b o,gl b=some o→w.heap[b]? = some o)→∃te pe,w.cell? ⟨Tryz.bV.g 15,0,none⟩=some (.iface te pe)
 rng:∀w:World,(∀b o,gl b=some o→w.heap[b]? = some o)→∃te pe,w.cell? ⟨Tryz.bV.g 16,0,none⟩=some (.iface te pe)
theorem y7(w:World)(k:Nat)(os:Array Obj):mB [] w.heap.size w (Go.Sort.grow (w.drewN k) os):=Below.l8 (Lib.below_grow _ w (Nat.le_refl _) k os)
theorem vh{w w':World}{e:TypeId}(h:w'=w∨∃t,w'=Lib.bytesWorld w e t):mB [] w.heap.size w w':=by
 rcases h with rfl|⟨t,rfl⟩
 ·exact mB.refl _ _ _
 ·exact Below.l8 (Lib.bytesWorld_below w e t)
theorem Kh(w:World)(n:Nat):mB [] w.heap.size w (w.drewN n):=⟨rfl,rfl,rfl,Nat.le_refl _,fun _ _ _=>rfl⟩
def A'(a:List R)(K:KT):Prop:=match a with
 |[.d (.v (.int .i64 n)),.d (.v (.int .i64 b))]=>b=10∧ar n∧K [.d (.v (.string (tx (Lib.itoa n))))] []
 |_=>False
theorem Es(G:aZ gl):CK gl A' 180:=fun a K h=>by
 unfold A' at h
 split at h
 ·obtain⟨rfl,h1,h2⟩:=h
  refine Ct.gives (ji (gM func180 (by kernel_rfl) (by kernel_rfl)) (.v (.v .nil)) (ds:=[.v (.string (tx (Lib.itoa _)))]) fun w hg=>?_) h2
  refine(Any.strconv_FormatInt_10 Tryz.Kf _ h1.1 (by have:=h1.2;omega) w (G.pow w hg)).mono fun e w' ⟨he,k,os,hw⟩=>⟨[_],he,rfl,one (jh rfl),by rw[hw];exact y7 _ _ _⟩
 ·exact h.elim
def De:aj:=au Jr 180 A'
theorem Ba(G:aZ gl):ah prog gl De:=af Ei (Es G)
def Ki(a:List R)(K:KT):Prop:=match a with
 |[.d (.v (.int .i64 n))]=>ar n∧K [.d (.v (.string (tx (Lib.itoa n))))] []
 |_=>False
theorem Kj(G:aZ gl):CK gl Ki 185:=fun a K h=>by
 unfold Ki at h
 split at h
 ·obtain⟨h1,h2⟩:=h
  refine Ct.gives (ji (gM func185 (by kernel_rfl) (by kernel_rfl)) (.v .nil) (ds:=[.v (.string (tx (Lib.itoa _)))]) fun w hg=>?_) h2
  refine(Any.strconv_Itoa Tryz.Kg _ h1.1 (by have:=h1.2;omega) w (G.pow w hg)).mono fun e w' ⟨he,k,os,hw⟩=>⟨[_],he,rfl,one (jh rfl),by rw[hw];exact y7 _ _ _⟩
 ·exact h.elim
def Kk:aj:=au De 185 Ki
theorem Et(G:aZ gl):ah prog gl Kk:=af (Ba G) (Kj G)
def Kl(a:List R)(K:KT):Prop:=match a with
 |[.d (.v (.string s)),.d (.v (.string c))]=>c=tx qm∧s.size≤9223372036854775807∧K [.d (.v (.string (tx (Lib.trimS s.data.toList qm))))] []
 |_=>False
theorem Km(G:aZ gl):CK gl Kl 194:=fun a K h=>by
 unfold Kl at h
 split at h
 ·obtain⟨rfl,h1,h2⟩:=h
  refine Ct.gives (ji (gM func194 (by kernel_rfl) (by kernel_rfl)) (.v (.v .nil)) (ds:=[.v (.string (tx (Lib.trimS _ qm)))]) fun w hg=>?_) h2
  refine(Any.strings_Trim_laid Tryz.Qg (by kernel_rfl) _ (tx qm) w h1 (by decide) (fun j b hb=>?_)).mono fun e w' ⟨he,hw⟩=>⟨[_],he,rfl,one (jh rfl),Below.l8 hw⟩
  have:b∈qm:=List.mem_of_getElem? hb
  revert this
  unfold qm
  simp only[List.mem_cons,List.not_mem_nil,or_false]
  rintro(rfl|rfl|rfl|rfl|rfl|rfl|rfl|rfl|rfl|rfl)<;>decide
 ·exact h.elim
def Kn:aj:=au Kk 194 Kl
theorem Eu(G:aZ gl):ah prog gl Kn:=af (Et G) (Km G)
def Ko(a:List R)(K:KT):Prop:=match a with
 |[.d (.v (.string s)),.d (.v (.int .i64 n))]=>0≤n∧n≤1000∧s.size≤1000∧K [.d (.v (.string (tx (Lib.repeatL s.data.toList n.toNat))))] []
 |_=>False
theorem Kq(G:aZ gl):CK gl Ko 206:=fun a K h=>by
 unfold Ko at h
 split at h
 ·rename_i s n
  obtain⟨h0,h1,h2,h3⟩:=h
  obtain⟨m,rfl⟩:=Int.eq_ofNat_of_zero_le h0
  refine Ct.gives (ji (gM func206 (by kernel_rfl) (by kernel_rfl)) (.v (.v .nil)) (ds:=[.v (.string (tx (Lib.repeatL s.data.toList m)))]) fun w hg=>?_) h3
  have hm:m≤1000:=by omega
  have:s.size*m≤1000*1000:=Nat.mul_le_mul h2 hm
  refine(Any.strings_Repeat Tryz.Qh Tryz.oa s m w (by omega) (by omega)).mono fun e w' ⟨he,hw⟩=>⟨[_],he,rfl,one (jh rfl),Below.l8 hw⟩
 ·exact h.elim
def Kr:aj:=au Kn 206 Ko
theorem Ev(G:aZ gl):ah prog gl Kr:=af (Eu G) (Kq G)
def Ks(a:List R)(K:KT):Prop:=match a with
 |[.d (.v (.string s)),.d (.v (.string o)),.d (.v (.string n))]=>s.size≤1000∧o.size=1∧n.size=2∧K [.d (.v (.string (tx (Lib.replaceAll s.data.toList o.data.toList n.data.toList))))] []
 |_=>False
theorem count_le(s o:ByteArray)(h:o.size=1):Lib.countB s o≤s.size:=Lib.countB_le o (by omega) s.size s (Nat.le_refl _)
theorem Kt(G:aZ gl):CK gl Ks 169:=fun a K h=>by
 unfold Ks at h
 split at h
 ·rename_i s o n
  obtain⟨h1,h2,h3,h4⟩:=h
  refine Ct.gives (ji (gM func169 (by kernel_rfl) (by kernel_rfl)) (.v (.v (.v .nil))) (ds:=[.v (.string (tx (Lib.replaceAll s.data.toList o.data.toList n.data.toList)))]) fun w hg=>?_) h4
  obtain⟨m,hm⟩:=G.aej w hg
  have:=count_le s o h2
  refine(Any.strings_ReplaceAll Tryz.Qi Tryz.ob s o n m w (by omega) hm (by omega) (by rw[h3];omega)).mono fun e w' ⟨he,hw⟩=>⟨[_],he,rfl,one (jh rfl),Below.l8 hw⟩
 ·exact h.elim
def Ku:aj:=au Kr 169 Ks
theorem Ew(G:aZ gl):ah prog gl Ku:=af (Ev G) (Kt G)
def Kv(a:List R)(K:KT):Prop:=match a with
 |[.d (.v (.string s)),.d (.v (.string o))]=>s.size≤1000∧K [.d (.v (.string (tx (Lib.cut s.data.toList o.data.toList).1))),.d (.v (.string (tx (Lib.cut s.data.toList o.data.toList).2.1))),.d (.v (.bool (Lib.cut s.data.toList o.data.toList).2.2))] []
 |_=>False
theorem Kw(G:aZ gl):CK gl Kv 177:=fun a K h=>by
 unfold Kv at h
 split at h
 ·rename_i s o
  obtain⟨h1,h2⟩:=h
  refine Ct.gives (ji (gM func177 (by kernel_rfl) (by kernel_rfl)) (.v (.v .nil)) (ds:=[.v (.string (tx (Lib.cut s.data.toList o.data.toList).1)),.v (.string (tx (Lib.cut s.data.toList o.data.toList).2.1)),.v (.bool (Lib.cut s.data.toList o.data.toList).2.2)]) fun w hg=>?_) h2
  obtain⟨m,hm⟩:=G.aej w hg
  refine(Any.strings_Cut Tryz.Qj s o m w (by omega) hm).mono fun e w' ⟨he,n,hw⟩=>⟨[_,_,_],he,rfl,three (jh rfl) (jh rfl) (jh rfl),by rw[hw];exact Kh _ _⟩
 ·exact h.elim
def Kx:aj:=au Ku 177 Kv
theorem Ey(G:aZ gl):ah prog gl Kx:=af (Ew G) (Kw G)
def Ky(a:List R)(K:KT):Prop:=match a with
 |[.d (.v (.string s)),.d (.v (.int .i64 b)),.d (.v (.int .i64 z))]=>b=10∧z=64∧s.size≤1000∧(yW s.data.toList=true→K [.d (.v (.int .i64 (e6 s.data.toList))),.d (.v .nilIface)] [])∧(yW s.data.toList=false→K [.d (.v (.int .i64 (e6 s.data.toList))),.d .wm] [])
 |_=>False
theorem Kz(G:aZ gl):CK gl Ky 176:=fun a K h=>by
 unfold Ky at h
 split at h
 ·rename_i s b z
  obtain⟨rfl,rfl,h1,h2,h3⟩:=h
  have hf:qc prog 176:=gM func176 (by kernel_rfl) (by kernel_rfl)
  cases hp:Lib.parseIntB 64 s.data.toList with
  |ok v=>
   have e1:yW s.data.toList=true:=by unfold yW;rw[hp]
   have e2:e6 s.data.toList=v:=by unfold e6;rw[hp]
   refine Ct.gives (ji hf (.v (.v (.v .nil))) (ds:=[.v (.int .i64 v),.v .nilIface]) fun w hg=>?_) (by have:=h2 e1;rw[e2]at this;exact this)
   exact(Any.strconv_ParseInt_10_at64_ok Tryz.sP s (by omega) v hp w).mono fun e w' ⟨he,hw⟩=>⟨[_,_],he,rfl,two (jh rfl) (jh rfl),vh hw⟩
  |range=>
   have e1:yW s.data.toList=false:=by unfold yW;rw[hp]
   have e2:e6 s.data.toList=Lib.intSat 64 s.data.toList:=by unfold e6;rw[hp]
   refine Ct.gives (ji hf (.v (.v (.v .nil))) (ds:=[.v (.int .i64 (Lib.intSat 64 s.data.toList)),.wm]) fun w hg=>?_) (by have:=h3 e1;rw[e2]at this;exact this)
   obtain⟨te,pe,hv⟩:=G.rng w hg
   exact(Any.strconv_ParseInt_10_at64_range Tryz.sP s (by omega) hp _ w hv (.inr ⟨_,_,rfl⟩)).mono fun e w' ⟨N,he,_,_,hw⟩=>⟨[_,_],he,rfl,two (jh rfl) Dd,Below.l8 hw⟩
  |_=>
   have e1:yW s.data.toList=false:=by unfold yW;rw[hp]
   have e2:e6 s.data.toList=0:=by unfold e6;rw[hp]
   refine Ct.gives (ji hf (.v (.v (.v .nil))) (ds:=[.v (.int .i64 0),.wm]) fun w hg=>?_) (by have:=h3 e1;rw[e2]at this;exact this)
   obtain⟨te,pe,hv⟩:=G.syn w hg
   exact(Any.strconv_ParseInt_10_at64_syntax Tryz.sP s (by omega) hp _ w hv (.inr ⟨_,_,rfl⟩)).mono fun e w' ⟨N,he,_,_,hw⟩=>⟨[_,_],he,rfl,two (jh rfl) Dd,Below.l8 hw⟩
 ·exact h.elim
def KA:aj:=au Kx 176 Ky
theorem Ez(G:aZ gl):ah prog gl KA:=af (Ey G) (Kz G)
def KB(a:List R)(K:KT):Prop:=match a with
 |[.d (.v (.string s))]=>∃v:Int,s.size≤1000∧Lib.atoiAll s.data.toList = .ok v∧K [.d (.v (.int .i64 v)),.d (.v .nilIface)] []
 |_=>False
theorem KC(G:aZ gl):CK gl KB 178:=fun a K h=>by
 unfold KB at h
 split at h
 ·rename_i s
  obtain⟨v,h1,h2,h3⟩:=h
  refine Ct.gives (ji (gM func178 (by kernel_rfl) (by kernel_rfl)) (.v .nil) (ds:=[.v (.int .i64 v),.v .nilIface]) fun w hg=>?_) h3
  exact(Any.strconv_Atoi_ok Tryz.Ke s (by omega) v h2 w).mono fun e w' ⟨he,hw⟩=>⟨[_,_],he,rfl,two (jh rfl) (jh rfl),vh hw⟩
 ·exact h.elim
def Bb:aj:=au KA 178 KB
theorem vi(G:aZ gl):ah prog gl Bb:=af (Ez G) (KC G)
end Go.Proofs.Tryz
