/- Part of the proof: contracts of functions; no condition. -/
import Derived.Calls
namespace Go.Dm
inductive D where
 |v (x:Value)
 |sl (es:List (List D))
 |wm
 deriving Inhabited
inductive V where
 |dead
 |d (x:D)
 |nil
 |agg (cs:List V)
 |pq (vs:List V)
 |ref (k off:Nat)
 |own (k:Nat)
 |gg (k i off:Nat)
 |bW (cs:List D)
 |fn (f:Nat) (bY:List V)
 |We (l:Nat)
 |j_ (k:Nat)
 |rl (k n c:Nat)
 |vw (k lo n:Nat)
 deriving Inhabited
inductive B where
 |box (cs:List V)
 |bu (e sz:Nat) (es:List (List D))
 |j9 (sz:Nat) (es:List (List D))
 |mp (es:List (Value×V))
 deriving Inhabited
abbrev V.i(n:Int):V:=.d (.v (.int .i64 n))
abbrev D.i(n:Int):D:=.v (.int .i64 n)
inductive CK where
 |int (k:IntKind)|bool|str|sl|ptr|fn|iface|map|other
 deriving DecidableEq,Inhabited
inductive TD where
 |plain|slice (e:Nat)|map (k e:Nat)|struct (fs:List (Nat×Nat))|arr (n e:Nat)|ptr (e:Nat)|iface|other
 deriving DecidableEq,Inhabited
structure TI where
 agg:Bool
 ck:List CK
 bytes:Nat
 td:TD
 eq:Bool:=false
 deriving DecidableEq,Inhabited
def lk{α:Type _}:List (Nat×α)→Nat→Option α
 |[],_=>none
 |(a,x)::r,k=>match Nat.beq a k with|true=>some x|false=>lk r k
def pt{α:Type}:List (Nat×α)→Nat→α→List (Nat×α)
 |[],k,v=>[(k,v)]
 |(a,x)::r,k,v=>
  match Nat.beq a k with
  |true=>(k,v)::r
  |false=>match Nat.ble k a with|true=>(k,v)::(a,x)::r|false=>(a,x)::pt r k v
def nth{α:Type}:List α→Nat→Option α
 |[],_=>none
 |x::_,0=>some x
 |_::r,n+1=>nth r n
def rm{α:Type}:List (Nat×α)→Nat→List (Nat×α)
 |[],_=>[]
 |(a,x)::r,k=>match Nat.beq a k with|true=>rm r k|false=>(a,x)::rm r k
structure St where
 tm:List (Nat×V)
 hp:List (Nat×B)
 kn:List (Nat×Bool)
 gd:List (Nat×(Nat×Bool×V))
 rt:List (List (Nat×V)):=[]
 deriving Inhabited
def oI:CK→V
 | .int k=>.d (.v (.int k 0))
 | .bool=>.d (.v (.bool false))
 | .str=>.d (.v (.string ⟨#[]⟩))
 | .sl=>.nil
 | .ptr=>.d (.v (.pointer none))
 | .fn=>.d (.v .nilFunc)
 | .iface=>.d (.v .nilIface)
 | .map=>.d (.v (.map none))
 | .other=>.dead
def fJ:List CK→List V
 |[]=>[]
 |c::r=>oI c::fJ r
def rn:Value→Option V
 | .slice none 0 0=>some .nil
 | .bool b=>some (.d (.v (.bool b)))
 | .int k n=>some (.d (.v (.int k n)))
 | .string s=>some (.d (.v (.string s)))
 | .pointer none=>some (.d (.v (.pointer none)))
 | .nilFunc=>some (.d (.v .nilFunc))
 | .nilIface=>some (.d (.v .nilIface))
 | .map none=>some (.d (.v (.map none)))
 |_=>none
def jL:List Value→Option (List V)
 |[]=>some []
 |x::r=>match rn x,jL r with|some v,some l=>some (v::l)|_,_=>none
def ofConst:Value→V
 | .agg xs=>(match jL xs.toList with|some l=>.agg l|none=>.dead)
 | .slice none 0 0=>.nil
 | .bool b=>.d (.v (.bool b))
 | .int k n=>.d (.v (.int k n))
 | .string s=>.d (.v (.string s))
 | .pointer none=>.d (.v (.pointer none))
 | .nilFunc=>.d (.v .nilFunc)
 | .nilIface=>.d (.v .nilIface)
 | .map none=>.d (.v (.map none))
 |_=>.dead
def gkn(s:St)(t:Nat)(want:Bool):Bool:=
 match lk s.kn t with|some b=>(match b,want with|true,true=>true|false,false=>true|_,_=>false)|none=>false
def Wf:List (Nat×Bool)→Nat→Bool→Bool
 |[],_,_=>false
 |(u,w)::r,t,want=>
  match Nat.beq u t with
  |true=>(match w,want with|true,true=>true|false,false=>true|_,_=>Wf r t want)
  |false=>Wf r t want
def evT(s:St)(g:List (Nat×Bool))(t:Nat):V:=
 match lk s.tm t with
 |some x=>x
 |none=>
  match lk s.gd t with
  |none=>.dead
  |some (t',w',x)=>(match gkn s t' w' with|true=>x|false=>match Wf g t' w' with|true=>x|false=>.dead)
def ev(s:St)(g:List (Nat×Bool)):Operand→V
 | .tmp t=>evT s g t
 | .const x=>ofConst x
 | .func f=>.fn f []
 | .global _=>.dead
def kQ(s:St)(g:List (Nat×Bool)):List Operand→List V
 |[]=>[]
 |o::r=>ev s g o::kQ s g r
def wo:List (Nat×(Nat×Bool×V))→Nat→List (Nat×(Nat×Bool×V))
 |[],_=>[]
 |(a,(t,w,x))::r,k=>
  match Nat.beq t k,Nat.beq a k with
  |false,false=>(a,(t,w,x))::wo r k
  |_,_=>(a,(t,w,.dead))::wo r k
def St.put(s:St)(k:Nat)(v:V):St:={s with tm:=pt s.tm k v,kn:=rm s.kn k,gd:=wo s.gd k}
def St.Fx(s:St)(k:Nat)(g:Nat×Bool)(v:V):St:=
 {s with tm:=rm s.tm k,kn:=rm s.kn k,gd:=(match Nat.beq g.1 k with|true=>wo s.gd k|false=>pt (wo s.gd k) k (g.1,g.2,v))}
def St.kill(s:St)(k:Nat):St:={s with tm:=rm s.tm k,kn:=rm s.kn k,gd:=wo s.gd k}
def St.ka(s:St)(k:Nat)(b:Bool):St:={s with kn:=pt s.kn k b}
def St.bp(s:St)(k:Nat)(b:B):St:={s with hp:=pt s.hp k b}
mutual
def V.names(k:Nat):V→Bool
 | .ref j _=>Nat.beq j k
 | .own j=>Nat.beq j k
 | .gg j _ _=>Nat.beq j k
 | .j_ j=>Nat.beq j k
 | .rl j _ _=>Nat.beq j k
 | .vw j _ _=>Nat.beq j k
 | .agg cs=>V.fK k cs
 | .pq cs=>V.fK k cs
 | .fn _ cs=>V.fK k cs
 |_=>false
def V.fK(k:Nat):List V→Bool
 |[]=>false
 |v::r=>match V.names k v with|true=>true|false=>V.fK k r
end
def eD(k:Nat)(v:V):V:=match V.names k v with|true=>.dead|false=>v
def gB(k:Nat):List V→List V
 |[]=>[]
 |v::r=>eD k v::gB k r
def kb(k:Nat):List (Nat×V)→List (Nat×V)
 |[]=>[]
 |(a,v)::r=>(a,eD k v)::kb k r
def gC(k:Nat):List (Value×V)→List (Value×V)
 |[]=>[]
 |(a,v)::r=>(a,eD k v)::gC k r
def gD(k:Nat):List (Nat×B)→List (Nat×B)
 |[]=>[]
 |(a,b)::r=>(a,match b with | .box cs=>.box (gB k cs) | .mp es=>.mp (gC k es)|b=>b)::gD k r
def nw(k:Nat):List (Nat×(Nat×Bool×V))→List (Nat×(Nat×Bool×V))
 |[]=>[]
 |(a,(t,w,v))::r=>(a,(t,w,eD k v))::nw k r
def qw(k:Nat):List (List (Nat×V))→List (List (Nat×V))
 |[]=>[]
 |l::r=>kb k l::qw k r
def St.bH(s:St)(k:Nat):St:={tm:=kb k s.tm,hp:=gD k s.hp,kn:=s.kn,gd:=nw k s.gd,rt:=qw k s.rt}
def St.drop(s:St)(k:Nat):St:={s.bH k with hp:=rm (gD k s.hp) k}
def tV(s:St):V→Option (D×St)
 | .d x=>some (x,s)
 | .nil=>some (.sl [],s)
 | .own k=>
   match lk s.hp k with
   |some (.bu _ sz es)=>some (.sl es,s.bp k (.j9 sz es))
   |some (.j9 _ es)=>some (.sl es,s)
   |_=>none
 | .vw k lo n=>
   match lk s.hp k with
   |some (.bu _ sz es)=>some (.sl ((es.take (lo+n)).drop lo),s.bp k (.j9 sz es))
   |some (.j9 _ es)=>some (.sl ((es.take (lo+n)).drop lo),s)
   |_=>none
 |_=>none
def jM(s:St):List V→Option (List D×St)
 |[]=>some ([],s)
 |v::r=>
  match tV s v with
  |none=>none
  |some (x,s)=>match jM s r with|none=>none|some (xs,s)=>some (x::xs,s)
inductive Cp where
 |d (x:D)
 |ptr (cs:List D)
 deriving Inhabited
inductive R where
 |d (x:D)
 |agg (cs:List D)
 |box (cs:List D)
 |ptr (cs:List D)
 |fn (f:Nat) (bY:List Cp)
 |bu (e sz:Nat) (es:List (List D))
 deriving Inhabited
def kV:List Cp→List V
 |[]=>[]
 | .d x::r=>.d x::kV r
 | .ptr cs::r=>.bW cs::kV r
def tW:List V→Option (List Cp)
 |[]=>some []
 | .d x::r=>(match tW r with|some l=>some (.d x::l)|none=>none)
 | .bW cs::r=>(match tW r with|some l=>some (.ptr cs::l)|none=>none)
 |_::_=>none
def toR(s:St):V→Option (R×Option Nat×St)
 | .agg cs=>match jM s cs with|none=>none|some (xs,s)=>some (.agg xs,none,s)
 | .ref k 0=>
   match lk s.hp k with
   |some (.box cs)=>match jM s cs with|none=>none|some (xs,s)=>some (.box xs,some k,s)
   |_=>none
 | .bW cs=>some (.ptr cs,none,s)
 | .fn f bY=>(match tW bY with|some l=>some (.fn f l,none,s)|none=>none)
 |v=>match tV s v with|none=>none|some (x,s)=>some (.d x,none,s)
def oJ(s:St):List V→Option (List R×List Nat×St)
 |[]=>some ([],[],s)
 |v::r=>
  match toR s v with
  |none=>none
  |some (x,k,s)=>
   match oJ s r with
   |none=>none
   |some (xs,ks,s)=>some (x::xs,(match k with|some k=>k::ks|none=>ks),s)
def vd:List D→List V
 |[]=>[]
 |x::r=>.d x::vd r
def dw(s:St):List Nat→List (List D)→Option St
 |[],[]=>some s
 |k::ks,cs::r=>dw (s.bp k (.box (vd cs))) ks r
 |_,_=>none
def Fy(s:St)(key:Nat):R→Option (V×St)
 | .d x=>some (.d x,s)
 | .agg cs=>some (.agg (vd cs),s)
 | .box cs=>(match lk s.hp key with|none=>some (.ref key 0,s.bp key (.box (vd cs)))|some _=>none)
 | .ptr cs=>some (.bW cs,s)
 | .fn f bY=>some (.fn f (kV bY),s)
 | .bu e sz es=>(match lk s.hp key with|none=>some (.own key,s.bp key (.bu e sz es))|some _=>none)
def xU(s:St)(key:Nat):List R→Option (List V×St)
 |[]=>some ([],s)
 |r::rs=>
  match Fy s key r with
  |none=>none
  |some (v,s)=>match xU s (key+1) rs with|none=>none|some (vs,s)=>some (v::vs,s)
def fr(s:St)(key:Nat):List R→Option (V×St)
 |[r]=>Fy s key r
 |rs=>match xU s key rs with|none=>none|some (vs,s)=>some (.pq vs,s)
def pr{α:Type}:Nat→List α→List α
 |0,l=>l
 |_+1,[]=>[]
 |n+1,_::r=>pr n r
def cut{α:Type}:Nat→Nat→List α→Option (List α)
 |0,0,_=>some []
 |0,_+1,[]=>none
 |0,n+1,x::r=>match cut 0 n r with|some l=>some (x::l)|none=>none
 |_+1,_,[]=>none
 |o+1,n,_::r=>cut o n r
def over{α:Type}:Nat→List α→List α→Option (List α)
 |0,[],l=>some l
 |0,_::_,[]=>none
 |0,x::xs,_::r=>match over 0 xs r with|some l=>some (x::l)|none=>none
 |_+1,_,[]=>none
 |o+1,xs,y::r=>match over o xs r with|some l=>some (y::l)|none=>none
def Q4:List CK→(List D→Prop)→Prop
 |[],F=>F []
 | .int k::r,F=>∃n:Int,Q4 r fun l=>F (.v (.int k n)::l)
 | .bool::r,F=>∃b:Bool,Q4 r fun l=>F (.v (.bool b)::l)
 | .str::r,F=>∃b:ByteArray,Q4 r fun l=>F (.v (.string b)::l)
 | .sl::r,F=>∃es:List (List D),Q4 r fun l=>F (.sl es::l)
 |_::r,F=>∃x:D,Q4 r fun l=>F (x::l)
def cellsOf:V→Option (List V)
 | .agg cs=>some cs
 | .pq _=>none
 | .dead=>none
 |v=>some [v]
def fL(agg:Bool)(cs:List V):Option V:=
 match agg with
 |true=>some (.agg cs)
 |false=>match cs with|[c]=>some c|_=>none
def xV(ti:TI)(cells:List D)(off:Nat)(K:V→Prop):Prop:=
 Q4 ti.ck fun l=>cut off ti.ck.length cells=some l∧(match fL ti.agg (vd l)with|some v=>K v|none=>False)
def jN(ti:TI)(s:St)(a:V)(K:V→Prop):Prop:=
 match a with
 | .ref k off=>
   match lk s.hp k with
   |some (.box cs)=>
    (match cut off ti.ck.length cs with
     |some l=>(match fL ti.agg l with|some v=>K v|none=>False)
     |none=>False)
   |_=>False
 | .gg k i off=>
   match lk s.hp k with
   |some (.bu _ _ es)=>∃cells,es[i]? = some cells∧xV ti cells off K
   |some (.j9 _ es)=>∃cells,es[i]? = some cells∧xV ti cells off K
   |_=>False
 | .bW cs=>xV ti cs 0 K
 |_=>False
def rp:V→Bool
 | .dead=>false
 | .agg _=>false
 | .pq _=>false
 |_=>true
def rq:List V→Bool
 |[]=>true
 |v::r=>match rp v with|true=>rq r|false=>false
def zK(ti:TI)(s:St)(a x:V)(K:St→Prop):Prop:=
 match cellsOf x with
 |none=>False
 |some xs=>
  match rq xs,Nat.beq xs.length ti.ck.length with
  |false,_=>False
  |true,false=>False
  |true,true=>
  match a with
  | .ref k off=>
    match lk s.hp k with
    |some (.box cs)=>(match over off xs cs with|some eN=>K (s.bp k (.box eN))|none=>False)
    |_=>False
  | .gg k i off=>
    match jM s xs with
    |none=>False
    |some (ds,s)=>
     match lk s.hp k with
     |some (.bu e sz es)=>∃cells,es[i]? = some cells∧∃kd,over off ds cells=some kd∧K (s.bp k (.bu e sz (es.set i kd)))
     |_=>False
  |_=>False
def jq(x:V)(s:St)(K:List (List D)→Prop):Prop:=
 match x with
 | .nil=>K []
 | .own k=>(match lk s.hp k with|some (.bu _ _ es)=>K es|some (.j9 _ es)=>K es|_=>False)
 | .d y=>∃es,y = .sl es∧K es
 | .vw k lo n=>(match lk s.hp k with|some (.bu _ _ es)=>K ((es.take (lo+n)).drop lo)|_=>False)
 |_=>False
def fM:IntKind→Nat
 | .i8=>0 | .i16=>1 | .i32=>2 | .i64=>3 | .u8=>4 | .u16=>5 | .u32=>6 | .u64=>7
def jr:List CK→List V→List V→Option Bool
 |[],[],[]=>some true
 | .int _::r,.d (.v (.int k a))::xs,.d (.v (.int k' b))::ys=>match Nat.beq (fM k) (fM k'),jr r xs ys with|true,some t=>some ((a==b)&&t)|_,_=>none
 | .bool::r,.d (.v (.bool a))::xs,.d (.v (.bool b))::ys=>match jr r xs ys with|some t=>some ((a==b)&&t)|none=>none
 | .str::r,.d (.v (.string a))::xs,.d (.v (.string b))::ys=>match jr r xs ys with|some t=>some ((a==b)&&t)|none=>none
 |_,_,_=>none
def b_(b:Bool):V:=.d (.v (.bool b))
def aB(op:BinOp)(k:IntKind)(a b:Int)(K:V→Prop):Prop:=
 match op with
 | .add=>K (.d (.v (.int k (k.wrap (a+b)))))
 | .sub=>K (.d (.v (.int k (k.wrap (a-b)))))
 | .mul=>K (.d (.v (.int k (k.wrap (a*b)))))
 | .quo=>b≠0∧K (.d (.v (.int k (k.wrap (a.tdiv b)))))
 | .rem=>b≠0∧K (.d (.v (.int k (a.tmod b))))
 | .and=>K (.d (.v (.int k (bits .and k a b))))
 | .or=>K (.d (.v (.int k (bits .or k a b))))
 | .xor=>K (.d (.v (.int k (bits .xor k a b))))
 | .shl=>0≤b∧K (.d (.v (.int k (shl k a b))))
 | .shr=>0≤b∧K (.d (.v (.int k (shr k a b))))
 | .eql=>K (b_ (a==b))
 | .neq=>K (b_ (a != b))
 | .lss=>K (b_ (decide (a<b)))
 | .leq=>K (b_ (decide (a≤b)))
 | .gtr=>K (b_ (decide (a>b)))
 | .geq=>K (b_ (decide (a≥b)))
 |_=>False
 where
 bits (op:BinOp) (k:IntKind) (a b:Int):Int:=
  let x:=BitVec.ofInt k.bits a
  let y:=BitVec.ofInt k.bits b
  k.wrap ((match op with | .and=>x &&& y | .or=>x ||| y|_=>x ^^^ y).toNat)
 shl (k:IntKind) (a b:Int):Int:=k.wrap (a*2^(min b.toNat k.bits))
 shr (k:IntKind) (a b:Int):Int:=a.fdiv (2^(min b.toNat k.bits))
structure Env where
 te:List (Nat×TI)
 inl:List Nat:=[]
 off:Nat:=0
 it:Nat→List Cp→(List R→Prop)→Prop:=fun _ _ _=>False
 bw:List Nat:=[]
 con:Bool:=false
def Env.ti(E:Env)(t:Nat):Option TI:=lk E.te t
def Fz(E:Env)(op:BinOp)(t:Nat)(x y:V)(K:V→Prop):Prop:=
 match x,y with
 | .d (.v (.int k a)),.d (.v (.int k' b))=>
   (match op,Nat.beq (fM k) (fM k')with
    | .shl,_=>aB op k a b K
    | .shr,_=>aB op k a b K
    |_,true=>aB op k a b K
    |_,false=>False)
 | .d (.v (.string a)),.d (.v (.string b))=>
   (match op with
    | .add=>a.size+b.size≤9223372036854775807∧K (.d (.v (.string (a++b))))
    | .eql=>K (b_ (a==b))
    | .neq=>K (b_ (!(a==b)))
    | .lss=>K (b_ (Op.bytesLess a.toList b.toList))
    | .leq=>K (b_ (Op.bytesLess a.toList b.toList||a==b))
    | .gtr=>K (b_ (!(Op.bytesLess a.toList b.toList||a==b)))
    | .geq=>K (b_ (!Op.bytesLess a.toList b.toList))
    |_=>False)
 | .d (.v (.bool a)),.d (.v (.bool b))=>
   (match E.ti t with
    |some {ck:=[.bool],td:=.plain,..}=>(match op with | .eql=>K (b_ (a==b)) | .neq=>K (b_ (!(a==b)))|_=>False)
    |_=>False)
 | .d (.v (.pointer none)),.d (.v (.pointer none))=>
   (match E.ti t with
    |some {td:=.ptr _,..}=>(match op with | .eql=>K (b_ true) | .neq=>K (b_ false)|_=>False)
    |_=>False)
 | .bW _,.d (.v (.pointer none))=>
   (match E.ti t with
    |some {td:=.ptr _,..}=>(match op with | .eql=>K (b_ false) | .neq=>K (b_ true)|_=>False)
    |_=>False)
 | .ref _ _,.d (.v (.pointer none))=>
   (match E.ti t with
    |some {td:=.ptr _,..}=>(match op with | .eql=>K (b_ false) | .neq=>K (b_ true)|_=>False)
    |_=>False)
 | .d (.sl es),.nil=>
   (match E.ti t with
    |some {td:=.slice _,..}=>∀b:Bool,(b=true→es=[])→(match op with | .eql=>K (b_ b) | .neq=>K (b_ (!b))|_=>False)
    |_=>False)
 | .nil,.nil=>
   (match E.ti t with
    |some {td:=.slice _,..}=>(match op with | .eql=>K (b_ true) | .neq=>K (b_ false)|_=>False)
    |_=>False)
 | .agg xs,.agg ys=>
   (match E.ti t with
    |some ti=>
     (match ti.agg,ti.eq,jr ti.ck xs ys with
      |true,true,some b=>(match op with | .eql=>K (b_ b) | .neq=>K (b_ (!b))|_=>False)
      |_,_,_=>False)
    |none=>False)
 |_,_=>False
def NU(E:Env)(op:BinOp)(t:Nat)(x:V)(K:V→Prop):Prop:=
 match E.ti t with
 |some {td:=.iface,..}=>
  (match op,x with
   | .eql,.d .wm=>K (b_ false)
   | .neq,.d .wm=>K (b_ true)
   | .eql,.d (.v .nilIface)=>K (b_ true)
   | .neq,.d (.v .nilIface)=>K (b_ false)
   |_,_=>False)
 |_=>False
def FA:Operand→Bool
 | .const .nilIface=>true
 |_=>false
def gX:List UInt8→List (List D)
 |[]=>[]
 |c::r=>[.v (.int .u8 c.toNat)]::gX r
def allI:List V→Option (IntKind×List Int)
 |[]=>none
 |v::r=>
  match v with
  | .d (.v (.int k a))=>
    (match r with
     |[]=>some (k,[a])
     |_::_=>(match allI r with|some (k',l)=>(match Nat.beq (fM k) (fM k')with|true=>some (k,a::l)|false=>none)|none=>none))
  |_=>none
def FB:List V→Option (List Bool)
 |[]=>some []
 |v::r=>match v with | .d (.v (.bool a))=>(match FB r with|some l=>some (a::l)|none=>none)|_=>none
def FC:List V→Option (List ByteArray)
 |[]=>some []
 |v::r=>match v with | .d (.v (.string a))=>(match FC r with|some l=>some (a::l)|none=>none)|_=>none
def xW(agg:Bool)(sz:Nat)(cs:List V)(n:Int)(K:V→Prop):Nat→Nat→Prop
 |_,0=>True
 |j,f+1=>(n=(j:Int)→match cut (j*sz) sz cs with|some l=>(match fL agg l with|some v=>K v|none=>False)|none=>False)∧xW agg sz cs n K (Nat.succ j) f
def TH(ei:TI)(cs:List V)(len:Nat)(n:Int)(K:V→Prop):Prop:=
 match ei.agg,Nat.beq ei.ck.length 1,Nat.beq cs.length len with
 |false,true,true=>
  (match allI cs with
   |some (k,l)=>K (.d (.v (.int k (l.getD n.toNat 0))))
   |none=>
    match FB cs with
    |some l=>K (.d (.v (.bool (l.getD n.toNat false))))
    |none=>
     match FC cs with
     |some l=>K (.d (.v (.string (l.getD n.toNat ⟨#[]⟩))))
     |none=>xW ei.agg ei.ck.length cs n K 0 len)
 |_,_,_=>xW ei.agg ei.ck.length cs n K 0 len
def NV(E:Env)(s:St)(g:List (Nat×Bool))(t:Nat)(lo hi:Option Operand)(k sz b n:Nat)(K:V→Prop):Prop:=
 match E.ti t with
 |some {td:=.slice e,..}=>
  (match E.ti e with
   |some ei=>sz=ei.ck.length∧∃l h:Nat,(match lo with|some o=>ev s g o = .d (.v (.int .i64 l))|none=>l=0)∧
       (match hi with|some o=>ev s g o = .d (.v (.int .i64 h))|none=>h=n)∧l≤h∧h≤n∧K (.vw k (b+l) (h-l))
   |none=>False)
 |_=>False
def dG(s:St):V→Option (Nat×Nat×Nat)
 | .own k=>(match lk s.hp k with|some (.bu _ _ es)=>some (k,0,es.length)|_=>none)
 | .vw k lo n=>(match lk s.hp k with|some (.bu _ _ _)=>some (k,lo,n)|_=>none)
 |_=>none
def dx(E:Env)(s:St)(g:List (Nat×Bool))(op:Op)(K:V→Prop):Prop:=
 match op with
 | .move x=>K (ev s g x)
 | .assign x=>K (ev s g x)
 | .pick c a b=>
   (match ev s g c,ev s g a,ev s g b with
    | .d (.v (.bool t)),.d (.v (.bool x)),.d (.v (.bool y))=>K (b_ (cond t x y))
    |_,_,_=>False)
 | .load t a=>(match E.ti t with|some ti=>jN ti s (ev s g a) K|none=>False)
 | .nilCheck x=>
   (match ev s g x with
    | .ref k o=>K (.ref k o)
    | .gg k i o=>K (.gg k i o)
    | .bW cs=>K (.bW cs)
    | .fn f cs=>K (.fn f cs)
    |_=>False)
 | .binOp op t x y _=>(match FA y with|true=>NU E op t (ev s g x) K|false=>Fz E op t (ev s g x) (ev s g y) K)
 | .unOp op _ x=>
   (match op,ev s g x with
    | .not,.d (.v (.bool b))=>K (b_ (!b))
    | .neg,.d (.v (.int k n))=>K (.d (.v (.int k (k.wrap (0-n)))))
    | .xor,.d (.v (.int k n))=>K (.d (.v (.int k (aB.bits .xor k (if k.signed then -1 else k.max) n))))
    |_,_=>False)
 | .convert t0 t x=>
   (match E.ti t0,E.ti t,ev s g x with
    |some {td:=.plain,..},some {ck:=[.int k],td:=.plain,..},.d (.v (.int _ n))=>K (.d (.v (.int k (k.wrap n))))
    |some {td:=.plain,..},some {ck:=[.str],td:=.plain,..},.d (.v (.string b))=>K (.d (.v (.string b)))
    |some {td:=.slice e,..},some {ck:=[.str],td:=.plain,..},v=>
     (match E.ti e with
      |some {ck:=[.int .u8],td:=.plain,..}=>jq v s fun es=>∃b:ByteArray,es=gX b.data.toList∧K (.d (.v (.string b)))
      |_=>False)
    |_,_,_=>False)
 | .extract x i=>
   (match ev s g x with
    | .pq vs=>(match nth vs i with|some v=>K v|none=>False)
    |_=>False)
 | .fieldAddr t x f=>
   (match E.ti t with
    |some {td:=.struct fs,..}=>
     (match nth fs f with
      |some (o,ft)=>
       (match E.ti ft,ev s g x with
        |some _,.ref k off=>K (.ref k (off+o))
        |some _,.gg k i off=>K (.gg k i (off+o))
        |some _,.bW cs=>K (.bW (pr o cs))
        |_,_=>False)
      |none=>False)
    |_=>False)
 | .field t x f=>
   (match E.ti t with
    |some {td:=.struct fs,..}=>
     (match nth fs f with
      |some (o,ft)=>
       (match E.ti ft,ev s g x with
        |some fi,.agg cs=>
         (match cut o fi.ck.length cs with
          |some l=>(match fL fi.agg l with|some v=>K v|none=>False)
          |none=>False)
        |_,_=>False)
      |none=>False)
    |_=>False)
 | .indexAddr t x i=>
   (match E.ti t,ev s g i with
    |some {td:=.slice e,..},.d (.v (.int _ n))=>
     (match E.ti e with
      |some ei=>
       (match ev s g x with
        | .own k=>
          (match lk s.hp k with
           |some (.bu _ sz es)=>(0≤n∧n<(es.length:Int))∧sz=ei.ck.length∧K (.gg k n.toNat 0)
           |some (.j9 sz es)=>(0≤n∧n<(es.length:Int))∧sz=ei.ck.length∧K (.gg k n.toNat 0)
           |_=>False)
        | .d y=>∃es,y = .sl es∧(0≤n∧n<(es.length:Int))∧∃cells,es[n.toNat]? = some cells∧cells.length=ei.ck.length∧K (.bW cells)
        | .vw k lo m=>
          (match lk s.hp k with
           |some (.bu _ sz _)=>(0≤n∧n<(m:Int))∧sz=ei.ck.length∧K (.gg k (lo+n.toNat) 0)
           |_=>False)
        |_=>False)
      |none=>False)
    |some {td:=.arr len e,..},.d (.v (.int _ n))=>
     (match E.ti e with
      |some ei=>
       (0≤n∧n<(len:Int))∧
       (match ev s g x with
        | .ref k off=>K (.ref k (off+n.toNat*ei.ck.length))
        | .gg k i off=>K (.gg k i (off+n.toNat*ei.ck.length))
        | .bW cs=>K (.bW (pr (n.toNat*ei.ck.length) cs))
        |_=>False)
      |none=>False)
    |_,_=>False)
 | .index t x i=>
   (match ev s g x,ev s g i with
    | .d (.v (.string b)),.d (.v (.int _ n))=>0≤n∧(match E.ti t with|some {ck:=[.str],td:=.plain,..}=>True|_=>False)∧∃c,b[n.toNat]? = some c∧K (.d (.v (.int .u8 c.toNat)))
    | .agg cs,.d (.v (.int _ n))=>
      (match E.ti t with
       |some {td:=.arr len e,..}=>
        (match E.ti e with
         |some ei=>(0≤n∧n<(len:Int))∧TH ei cs len n K
         |none=>False)
       |_=>False)
    |_,_=>False)
 | .slice t x lo hi none=>
   (match ev s g x with
    | .d (.v (.string b))=>
      ∃l h:Nat,(match lo with|some o=>ev s g o = .d (.v (.int .i64 l))|none=>l=0)∧
       (match hi with|some o=>ev s g o = .d (.v (.int .i64 h))|none=>h=b.size)∧l≤h∧h≤b.size∧
       (match E.ti t with|some {ck:=[.str],td:=.plain,..}=>True|_=>False)∧K (.d (.v (.string (b.extract l h))))
    | .d y=>
      ∃es,y = .sl es∧∃l h:Nat,(match lo with|some o=>ev s g o = .d (.v (.int .i64 l))|none=>l=0)∧
       (match hi with|some o=>ev s g o = .d (.v (.int .i64 h))|none=>h=es.length)∧l≤h∧h≤es.length∧
       (match E.ti t with|some {td:=.slice e,..}=>(match E.ti e with|some ei=>(∀c∈es,c.length=ei.ck.length)|none=>False)|_=>False)∧
       K (.d (.sl ((es.take h).drop l)))
    | .ref k 0=>
      (match lo,hi,E.ti t with
       |none,none,some {td:=.arr n e,..}=>(match E.ti e with|some ei=>K (.rl k n ei.ck.length)|none=>False)
       |_,_,_=>False)
    | .own k=>(match lk s.hp k with|some (.bu _ sz es)=>0<es.length∧NV E s g t lo hi k sz 0 es.length K|_=>False)
    | .vw k b n=>(match lk s.hp k with|some (.bu _ sz _)=>NV E s g t lo hi k sz b n K|_=>False)
    |_=>False)
 | .slice t x lo hi (some mx)=>
   (match ev s g x with
    | .d y=>
      ∃es,y = .sl es∧∃l h m:Nat,(match lo with|some o=>ev s g o = .d (.v (.int .i64 l))|none=>l=0)∧
       (match hi with|some o=>ev s g o = .d (.v (.int .i64 h))|none=>False)∧ev s g mx = .d (.v (.int .i64 m))∧l≤h∧h≤m∧m≤es.length∧
       (match E.ti t with|some {td:=.slice e,..}=>(match E.ti e with|some ei=>(∀c∈es,c.length=ei.ck.length)|none=>False)|_=>False)∧
       K (.d (.sl ((es.take h).drop l)))
    |_=>False)
 | .build t parts=>
   (match E.ti t with
    |some {agg:=true,ck:=ck,td:=.struct fs,..}=>
     (match xX E s g fs (fJ ck) parts.toList with|some cs=>K (.agg cs)|none=>False)
    |some {agg:=true,ck:=ck,td:=.arr _ e,..}=>
     (match E.ti e with
      |some ei=>(match rr s g ei.ck.length (fJ ck) parts.toList with|some cs=>K (.agg cs)|none=>False)
      |none=>False)
    |_=>False)
 | .makeFunc (.func f) first bY=>
   (match first.toList with
    |[]=>K (.fn f (kQ s g bY.toList))
    |_=>False)
 | .call {callee:=.builtin .len,args:=args,argTypes:=pv}=>
   (match args.toList,pv.toList with
    |[x],[t]=>
     (match ev s g x,E.ti t with
      | .d (.v (.string b)),some {ck:=[.str],td:=.plain,..}=>K (.d (.v (.int .i64 b.size)))
      |v,some {td:=.slice _,..}=>jq v s fun es=>K (.d (.v (.int .i64 es.length)))
      |_,_=>False)
    |_,_=>False)
 | .call {callee:=.builtin .min,args:=args,..}=>
   (match kQ s g args.toList with
    |[.d (.v (.int k a)),.d (.v (.int _ b))]=>K (.d (.v (.int k (if b<a then b else a))))
    |_=>False)
 | .call {callee:=.builtin .max,args:=args,..}=>
   (match kQ s g args.toList with
    |[.d (.v (.int k a)),.d (.v (.int _ b))]=>K (.d (.v (.int k (if b>a then b else a))))
    |_=>False)
 |_=>False
 where
 xX (E:Env) (s:St) (g:List (Nat×Bool)) (fs:List (Nat×Nat)) (cs:List V):List (Nat×Operand)→Option (List V)
  |[]=>some cs
  |(i,x)::r=>
   match nth fs i with
   |none=>none
   |some (o,ft)=>
    match E.ti ft,cellsOf (ev s g x)with
    |some fi,some xs=>
     (match Nat.beq xs.length fi.ck.length with
      |true=>(match over o xs cs with|some cs=>xX E s g fs cs r|none=>none)
      |false=>none)
    |_,_=>none
 rr (s:St) (g:List (Nat×Bool)) (sz:Nat) (cs:List V):List (Nat×Operand)→Option (List V)
  |[]=>some cs
  |(i,x)::r=>
   match cellsOf (ev s g x)with
   |some xs=>
    (match Nat.beq xs.length sz with
     |true=>(match over (i*sz) xs cs with|some cs=>rr s g sz cs r|none=>none)
     |false=>none)
   |none=>none
inductive Ex where
 |normal|exit (id:Nat)|ret
 deriving Inhabited
abbrev KT:=List R→List (List D)→Prop
abbrev aj:=Nat→List R→KT→Prop
def mem:List Nat→Nat→Bool
 |[],_=>false
 |a::r,k=>match Nat.beq a k with|true=>true|false=>mem r k
def ru:List Nat→Bool
 |[]=>true
 |a::r=>match mem r a with|true=>false|false=>ru r
def xY:V→Bool
 | .d _=>true
 | .nil=>true
 | .agg cs=>tX cs
 |_=>false
 where
 tX:List V→Bool
  |[]=>true
  | .d _::r=>tX r
  | .nil::r=>tX r
  |_::_=>false
def ry:List V→Bool
 |[]=>true
 |v::r=>match xY v with|true=>ry r|false=>false
def il:List R→Bool
 |[]=>true
 | .box _::_=>false
 | .bu _ _ _::_=>false
 |_::r=>il r
def oK(C:aj)(s:St)(f:Nat)(args:List V)(K:V→Prop):Prop:=
 match ry args with
 |false=>False
 |true=>
  match oJ s args with
  |none=>False
  |some (rs,_,_)=>C f rs fun res fin=>
   match fin,il res with
   |[],true=>(match fr s 0 res with|some (v,_)=>K v|none=>False)
   |_,_=>False
def rA(C:aj)(s:St)(key:Nat)(f:Nat)(args:List V)(K:V→St→Prop):Prop:=
 match oJ s args with
 |none=>False
 |some (rs,ks,s)=>
  match ru ks with
  |false=>False
  |true=>C f rs fun res fin=>
   match dw s ks fin with
   |none=>False
   |some s=>(match fr s key res with|some (v,s)=>K v s|none=>False)
def chunks{α:Type}(sz:Nat):Nat→List α→Option (List (List α))
 |0,[]=>some []
 |0,_::_=>none
 |n+1,l=>match cut 0 sz l with|none=>none|some c=>match chunks sz n (l.drop sz)with|none=>none|some r=>some (c::r)
def kH(s:St):V→Option D
 | .d x=>some x
 | .nil=>some (.sl [])
 | .own k=>
   match lk s.hp k with
   |some (.bu _ _ es)=>some (.sl es)
   |some (.j9 _ es)=>some (.sl es)
   |_=>none
 | .vw k lo n=>
   match lk s.hp k with
   |some (.bu _ _ es)=>some (.sl ((es.take (lo+n)).drop lo))
   |some (.j9 _ es)=>some (.sl ((es.take (lo+n)).drop lo))
   |_=>none
 |_=>none
def oL(s:St):List V→Option (List D)
 |[]=>some []
 |v::r=>match kH s v with|none=>none|some x=>match oL s r with|none=>none|some xs=>some (x::xs)
def xZ(s:St)(k off:Nat):Option (List D):=
 match lk s.hp k with
 |some (.box cs)=>(match oL s cs with|some ds=>some (pr off ds)|none=>none)
 |_=>none
def fN(s:St):List V→Option (List Cp)
 |[]=>some []
 | .ref k off::r=>(match xZ s k off,fN s r with|some ds,some l=>some (.ptr ds::l)|_,_=>none)
 | .bW cs::r=>(match fN s r with|some l=>some (.ptr cs::l)|none=>none)
 |v::r=>(match kH s v,fN s r with|some x,some l=>some (.d x::l)|_,_=>none)
def pw(s:St):V→Option R
 | .agg cs=>(match oL s cs with|some ds=>some (.agg ds)|none=>none)
 | .ref k off=>(match xZ s k off with|some ds=>some (.ptr ds)|none=>none)
 | .bW cs=>some (.ptr cs)
 | .rl k n c=>(match xZ s k 0 with|some ds=>(match chunks c n ds with|some es=>some (.d (.sl es))|none=>none)|none=>none)
 | .fn f bY=>(match fN s bY with|some l=>some (.fn f l)|none=>none)
 |v=>(match kH s v with|some x=>some (.d x)|none=>none)
def rB(s:St):List V→Option (List R)
 |[]=>some []
 |v::r=>match pw s v with|none=>none|some x=>match rB s r with|none=>none|some xs=>some (x::xs)
def lO:List D→Bool
 |[]=>true
 | .v _::r=>lO r
 |_::_=>false
def cR:List R→Option (List V)
 |[]=>some []
 | .d (.v x)::r=>(match cR r with|some l=>some (.d (.v x)::l)|none=>none)
 | .agg cs::r=>(match lO cs,cR r with|true,some l=>some (.agg (vd cs)::l)|_,_=>none)
 |_::_=>none
def zL:List V→V
 |[v]=>v
 |vs=>.pq vs
def wq(C:aj)(s:St)(f:Nat)(args:List V)(K:V→Prop):Prop:=
 match rB s args with
 |none=>False
 |some rs=>C f rs fun res fin=>
  match fin,cR res with
  |[],some vs=>K (zL vs)
  |_,_=>False
def app{α:Type}:List α→List α→List α
 |[],b=>b
 |x::r,b=>x::app r b
def rep{α:Type}:Nat→List α→List α
 |0,_=>[]
 |n+1,l=>app l (rep n l)
def gY:List CK→Option (List D)
 |[]=>some []
 |c::r=>
  match oI c,gY r with
  | .d x,some l=>some (x::l)
  | .nil,some l=>some (.sl []::l)
  |_,_=>none
def zM(ki:TI)(k:Value):Bool:=
 match ki.td,ki.ck,k with
 | .plain,[.str],.string _=>true
 | .plain,[.int q],.int q' _=>Nat.beq (fM q) (fM q')
 |_,_,_=>false
def px(k:Value):List (Value×V)→(V→Prop)→Prop→Prop
 |[],_,N=>N
 |(a,v)::r,Y,N=>
  match k,a with
  | .string y,.string x=>((y==x)=true→Y v)∧((y==x)=false→px k r Y N)
  | .int q y,.int q' x=>(match Nat.beq (fM q) (fM q')with|true=>((y==x)=true→Y v)∧((y==x)=false→px k r Y N)|false=>False)
  |_,_=>False
def wu(k:Value)(v:V)(pre:List (Value×V)):List (Value×V)→(List (Value×V)→Prop)→Prop
 |[],K=>K (app pre [(k,v)])
 |(a,y)::r,K=>
  match k,a with
  | .string u,.string x=>((u==x)=true→K (app pre ((k,v)::r)))∧((u==x)=false→wu k v (app pre [(a,y)]) r K)
  | .int q u,.int q' x=>(match Nat.beq (fM q) (fM q')with|true=>((u==x)=true→K (app pre ((k,v)::r)))∧((u==x)=false→wu k v (app pre [(a,y)]) r K)|false=>False)
  |_,_=>False
def fu(E:Env)(C:aj)(I:Nat→List V→List V→St→(V→St→Prop)→Prop)(s:St)(g:List (Nat×Bool))(key:Nat)(op:Op)(K:V→St→Prop):Prop:=
 match op with
 | .alloc t=>
   (match E.ti t,lk s.hp key with
    |some ti,none=>K (.ref key 0) (s.bp key (.box (fJ ti.ck)))
    |_,_=>False)
 | .box t x=>
   (match E.ti t,lk s.hp key,cellsOf (ev s g x)with
    |some ti,none,some cs=>(match Nat.beq cs.length ti.ck.length with|true=>K (.ref key 0) (s.bp key (.box cs))|false=>False)
    |_,_,_=>False)
 | .store t a x=>(match E.ti t with|some ti=>zK ti s (ev s g a) (ev s g x) fun s=>K .dead s|none=>False)
 | .makeMap t none=>
   (match E.ti t,lk s.hp key with
    |some {td:=.map _ _,..},none=>K (.j_ key) (s.bp key (.mp []))
    |_,_=>False)
 | .lookup t x ix x6=>
   (match E.ti t,ev s g x,ev s g ix with
    |some {td:=.map kt et,..},.j_ j,.d (.v k)=>
     (match E.ti kt,E.ti et,lk s.hp j with
      |some ki,some ei,some (.mp es)=>
       (match zM ki k,ei.agg,fJ ei.ck with
        |true,false,[z]=>
         (match x6 with
          |true=>px k es (fun v=>K (.pq [v,b_ true]) s) (K (.pq [z,b_ false]) s)
          |false=>px k es (fun v=>K v s) (K z s))
        |_,_,_=>False)
      |_,_,_=>False)
    |_,_,_=>False)
 | .mapUpdate t m k x=>
   (match E.ti t,ev s g m,ev s g k with
    |some {td:=.map kt et,..},.j_ j,.d (.v kv)=>
     (match E.ti kt,E.ti et,lk s.hp j,rp (ev s g x)with
      |some ki,some ei,some (.mp es),true=>
       (match zM ki kv,ei.agg with
        |true,false=>wu kv (ev s g x) [] es fun iz=>K .dead (s.bp j (.mp iz))
        |_,_=>False)
      |_,_,_,_=>False)
    |_,_,_=>False)
 | .insert t m k x=>
   (match E.ti t,ev s g m,ev s g k with
    |some {td:=.map kt et,..},.j_ j,.d (.v kv)=>
     (match E.ti kt,E.ti et,lk s.hp j,rp (ev s g x)with
      |some ki,some ei,some (.mp es),true=>
       (match zM ki kv,ei.agg with
        |true,false=>wu kv (ev s g x) [] es fun iz=>K .dead (s.bp j (.mp iz))
        |_,_=>False)
      |_,_,_,_=>False)
    |_,_,_=>False)
 | .buildSlice t len parts=>
   (match E.ti t,lk s.hp key with
    |some {td:=.slice e,..},none=>
     (match E.ti e with
      |some ei=>
       (match Nat.ble (len*ei.ck.length) 16777216,dx.rr s g ei.ck.length (rep len (fJ ei.ck)) parts.toList with
        |true,some cs=>
         (match jM s cs with
          |some (ds,s)=>(match chunks ei.ck.length len ds with|some es=>K (.own key) (s.bp key (.bu e ei.ck.length es))|none=>False)
          |none=>False)
        |_,_=>False)
      |none=>False)
    |_,_=>False)
 | .makeSlice t n c=>
   (match E.ti t,lk s.hp key,ev s g n,ev s g c with
    |some {td:=.slice e,..},none,.d (.v (.int .i64 n)),.d (.v (.int .i64 c))=>
     (match E.ti e with
      |some ei=>0≤n∧n≤c∧c*ei.bytes≤140737488355328∧c≤140737488355328∧
       (match gY ei.ck with|some z=>K (.own key) (s.bp key (.bu e ei.ck.length (List.replicate n.toNat z)))|none=>False)
      |none=>False)
    |_,_,_,_=>False)
 | .call {callee:=.builtin .append,args:=args,argTypes:=pv}=>
   (match kQ s g args.toList,pv.toList with
    |[a,b],[t,t']=>
     (match E.ti t,Nat.beq t t' with
      |some {td:=.slice e,..},true=>
       (match E.ti e with
        |some ei=>
         (match Nat.ble 1 ei.bytes with
          |false=>False
          |true=>jq b s fun new=>
            (∀c∈new,c.length=ei.ck.length)∧
            (match a with
             | .nil=>(match lk s.hp key with
               |none=>(new.length:Int)*ei.bytes≤140737488355328∧K (.own key) (s.bp key (.bu e ei.ck.length new))
               |some _=>False)
             | .own k=>(match lk s.hp k with
               |some (.bu e' sz es)=>e'=e∧sz=ei.ck.length∧((es.length+new.length:Nat):Int)*ei.bytes≤140737488355328∧K (.own k) ((s.bH k).bp k (.bu e sz (es++new)))
               |_=>False)
             |_=>False))
        |none=>False)
      |_,_=>False)
    |_,_=>False)
 | .call {callee:=.builtin .clear,args:=args,argTypes:=pv}=>
   (match args.toList,pv.toList with
    |[x],[t]=>
     (match E.ti t,dG s (ev s g x)with
      |some {td:=.slice e,..},some (k,lo,n)=>
       (match E.ti e,lk s.hp k with
        |some ei,some (.bu e' sz es)=>
         (match gY ei.ck with
          |some z=>sz=ei.ck.length∧K .dead (s.bp k (.bu e' sz (es.take lo++List.replicate n z++es.drop (lo+n))))
          |none=>False)
        |_,_=>False)
      |_,_=>False)
    |_,_=>False)
 | .call {callee:=.builtin .copy,args:=args,argTypes:=pv}=>
   (match args.toList,pv.toList with
    |[x,y],[t,_]=>
     (match E.ti t,dG s (ev s g x)with
      |some {td:=.slice e,..},some (k,lo,n)=>
       (match E.ti e,lk s.hp k with
        |some ei,some (.bu e' sz es)=>jq (ev s g y) s fun new=>
         sz=ei.ck.length∧(∀c∈new,c.length=sz)∧
         K (.d (.v (.int .i64 (new.take n).length))) (s.bp k (.bu e' sz (es.take lo++new.take n++es.drop (lo+(new.take n).length))))
        |_,_=>False)
      |_,_=>False)
    |_,_=>False)
 | .call {callee:=.value f,args:=args,..}=>
   (match ev s g f with
    | .fn f bY=>
      (match mem E.bw f with
       |true=>wq C s f (app (kQ s g args.toList) bY) fun v=>K v s
       |false=>(match mem E.inl f with
        |true=>I f (kQ s g args.toList) bY s K
        |false=>rA C s key f (app (kQ s g args.toList) bY) K))
    |_=>False)
 |_=>False
def wv:Op→Bool
 | .move _ | .assign _ | .load .. | .binOp .. | .unOp .. | .extract .. | .fieldAddr .. | .field .. | .pick .. | .nilCheck _=>true
 | .call {callee:=.builtin .len,..}=>true
 |_=>false
def oM(ops:List Oper)(j:Nat):Option Nat:=match nth ops j with|some o=>o.dst|none=>none
def ke:Nat→St→Nat→Bool→(St→Prop)→(St→Prop)→Prop
 |0,_,_,_,_,_=>False
 |n+1,s,t,want,Y,N=>
  match lk s.kn t with
  |some b=>(match b,want with|true,true=>Y s|false,false=>Y s|_,_=>N s)
  |none=>
   match lk s.tm t with
   |some (.d (.v (.bool b)))=>(b=want→Y (s.ka t want))∧(b = !want→N (s.ka t (!want)))
   |some _=>False
   |none=>
    match lk s.gd t with
    |some (t',w',.d (.v (.bool b)))=>
     ke n s t' w' (fun s=>(b=want→Y (s.ka t want))∧(b = !want→N (s.ka t (!want)))) N
    |_=>False
def kf(s:St)(d:Option Nat)(v:V):St:=
 match d with
 |none=>s
 |some d=>(match v with | .dead=>s.kill d|v=>s.put d v)
def dR(s:St)(d:Option Nat)(g:Nat×Bool)(v:V):St:=
 match d with
 |none=>s
 |some d=>(match v with | .dead=>s.kill d|v=>s.Fx d g v)
def FD(s:St)(g:List (Nat×Bool))(c a b:Operand)(K:V→St→Prop):Prop:=
 match c with
 | .tmp t=>
   (match lk s.kn t with
    |some true=>K (ev s g a) s
    |some false=>K (ev s g b) s
    |none=>
     match evT s g t,ev s ((t,true)::g) a,ev s ((t,false)::g) b with
     | .d (.v (.bool x)),.d (.v (.bool y)),.d (.v (.bool z))=>K (b_ (cond x y z)) s
     | .d (.v (.bool x)),va,vb=>(x=true→K va (s.ka t true))∧(x=false→K vb (s.ka t false))
     |_,_,_=>False)
 | .const (.bool true)=>K (ev s g a) s
 | .const (.bool false)=>K (ev s g b) s
 |_=>False
def Ci:List (Nat×B)→Nat→Nat
 |[],n=>n
 |(k,_)::r,n=>Ci r (match Nat.ble n k with|true=>Nat.succ k|false=>n)
def oN(hp:List (Nat×B))(k:Nat):Nat:=match lk hp k with|none=>k|some _=>Ci hp k
def FE(E:Env)(C:aj)(I:Nat→List V→List V→St→(V→St→Prop)→Prop)(s:St)(g:List (Nat×Bool))(o:Oper)(K:V→St→Prop):Prop:=
 match o.op with
 | .pick c a b=>FD s g c a b K
 | .alloc .. | .box .. | .store .. | .buildSlice .. | .makeSlice .. =>fu E C I s g (oN s.hp (E.off+o.dst.getD 0)) o.op K
 | .call {callee:=.builtin .append,..}=>fu E C I s g (oN s.hp (E.off+o.dst.getD 0)) o.op K
 | .call {callee:=.builtin .clear,..}=>fu E C I s g (oN s.hp (E.off+o.dst.getD 0)) o.op K
 | .call {callee:=.builtin .copy,..}=>fu E C I s g (oN s.hp (E.off+o.dst.getD 0)) o.op K
 | .makeMap .. | .lookup .. | .mapUpdate .. | .insert .. =>fu E C I s g (oN s.hp (E.off+o.dst.getD 0)) o.op K
 | .call {callee:=.value _,..}=>fu E C I s g (oN s.hp (E.off+o.dst.getD 0)) o.op K
 |op=>dx E s g op fun v=>K v s
def iC:V→List Nat
 | .ref k _=>[k]
 | .gg k _ _=>[k]
 |_=>[]
def mapKey:V→List Nat
 | .j_ k=>[k]
 |_=>[]
def fO:V→List Nat
 | .own k=>[k]
 | .vw k _ _=>[k]
 |_=>[]
def gE:List V→List Nat
 |[]=>[]
 | .ref k _::r=>k::gE r
 |_::r=>gE r
def kg:List (Nat×B)→List Nat
 |[]=>[]
 |(k,_)::r=>k::kg r
def dj(E:Env)(s:St)(g:List (Nat×Bool)):Op→List Nat
 | .store _ a _=>iC (ev s g a)
 | .mapUpdate _ m _ _=>mapKey (ev s g m)
 | .insert _ m _ _=>mapKey (ev s g m)
 | .call {callee:=.builtin .append,args:=args,..}=>(match kQ s g args.toList with|v::_=>fO v|_=>[])
 | .call {callee:=.builtin .clear,args:=args,..}=>(match kQ s g args.toList with|v::_=>fO v|_=>[])
 | .call {callee:=.builtin .copy,args:=args,..}=>(match kQ s g args.toList with|v::_=>fO v|_=>[])
 | .call {callee:=.value f,args:=args,..}=>(match ev s g f with | .fn f bY=>(match mem E.bw f with|true=>[]|false=>(match mem E.inl f with|true=>kg s.hp|false=>gE (app (kQ s g args.toList) bY)))|_=>[])
 |_=>[]
def fP(E:Env)(s:St)(g:List (Nat×Bool))(op:Op):List Nat:=
 match op with
 | .load _ a=>iC (ev s g a)
 | .convert _ _ x=>fO (ev s g x)
 |op=>dj E s g op
def jO(E:Env)(C:aj)(I:Nat→List V→List V→St→(V→St→Prop)→Prop)(ops:List Oper)(o:Oper)(s:St)(next:List Nat→St→Prop):Prop:=
 match o.guard with
 |none=>FE E C I s [] o fun v s'=>next (fP E s [] o.op) (kf s' o.dst v)
 |some (j,want)=>
  match oM ops j with
  |none=>False
  |some t=>
   let yes:=fun(s:St)=>FE E C I s [(t,want)] o fun v s'=>next (fP E s [(t,want)] o.op) (kf s' o.dst v)
   let no:=fun(s:St)=>next [] (kf s o.dst .dead)
   match lk s.kn t with
   |some b=>(match b,want with
    |true,true=>yes s
    |false,false=>yes s
    |_,_=>(match E.con with|true=>next [] (dR s o.dst (t,want) (b_ false))|false=>no s))
   |none=>
    match E.con with
    |true=>ke 12 s t want yes (fun s=>next [] (dR s o.dst (t,want) (b_ false)))
    |false=>
    match wv o.op with
    |true=>
     (match o.op with
      | .pick c a b=>
        (match ev s [(t,want)] c,oO s (t,want) c true a,oO s (t,want) c false b with
         | .d (.v (.bool x)),.d (.v (.bool y)),.d (.v (.bool z))=>next [] (dR s o.dst (t,want) (b_ (cond x y z)))
         |_,_,_=>ke 4 s t want yes no)
      |op=>dx E s [(t,want)] op fun v=>next (fP E s [(t,want)] op) (dR s o.dst (t,want) v))
    |false=>
     match o.op with
     | .call {callee:=.value (.func f),args:=args,..}=>
       (match mem E.bw f with
        |true=>wq C s f (kQ s [(t,want)] args.toList) fun v=>next [] (dR s o.dst (t,want) v)
        |false=>
        match ry (kQ s [(t,want)] args.toList)with
        |true=>oK C s f (kQ s [(t,want)] args.toList) fun v=>next [] (dR s o.dst (t,want) v)
        |false=>ke 4 s t want yes no)
     |_=>ke 4 s t want yes no
 where
 oO (s:St) (g:Nat×Bool) (c:Operand) (w:Bool) (x:Operand):V:=
  match c with
  | .tmp t=>ev s [(t,w),g] x
  |_=>ev s [g] x
def NW(E:Env)(C:aj)(I:Nat→List V→List V→St→(V→St→Prop)→Prop)(ops:List Oper):List Oper→St→(St→Prop)→Prop
 |[],s,K=>K s
 |o::rest,s,K=>jO E C I ops o s fun _ s=>NW E C I ops rest s K
inductive js where
 |done
 |q (i:Nat) (k:js)
 |one (i:Nat) (drop:List Nat) (k:js)
 |alt (i:Nat) (drop:List Nat) (k rest:js)
 deriving Inhabited
def iU(drop:List Nat):List (Nat×List Nat)→List (Nat×List Nat)
 |[]=>[]
 |(q,ks)::r=>match mem drop q with|true=>iU drop r|false=>(q,ks)::iU drop r
def Cj:List Nat→List Nat→Bool
 |[],_=>true
 |k::r,l=>match mem l k with|true=>false|false=>Cj r l
def x7(ks:List Nat):List (Nat×List Nat)→Bool
 |[]=>true
 |(_,l)::r=>match Cj ks l with|true=>x7 ks r|false=>false
def rC(E:Env)(C:aj)(I:Nat→List V→List V→St→(V→St→Prop)→Prop)(ops:List Oper)(K:St→Prop):js→List (Nat×List Nat)→St→Prop
 | .done,_,s=>K s
 | .q i k,rs,s=>(match nth ops i with|none=>False|some o=>jO E C I ops o s fun ks s=>rC E C I ops K k ((i,ks)::rs) s)
 | .one i drop k,rs,s=>(match nth ops i with
   |none=>False
   |some o=>jO E C I ops o s fun ks s=>match x7 ks (iU drop rs)with|true=>rC E C I ops K k (iU drop rs) s|false=>False)
 | .alt i drop k rest,rs,s=>(match nth ops i with
   |none=>False
   |some o=>jO E C I ops o s fun ks s=>match x7 ks (iU drop rs)with|true=>rC E C I ops K k (iU drop rs) s|false=>False)∧rC E C I ops K rest rs s
def NX:List Oper→List Nat
 |[]=>[]
 |o::r=>match o.dst with|some d=>d::NX r|none=>NX r
def rD(keep:List Nat):List Nat→St→St
 |[],s=>s
 |d::r,s=>match mem keep d with|true=>rD keep r s|false=>rD keep r (s.kill d)
def iL(keep:List Nat)(ops:List Oper)(s:St):St:={rD keep (NX ops) s with gd:=[]}
def jt(live:List Nat):List (Nat×V)→List (Nat×V)
 |[]=>[]
 |(a,x)::r=>match mem live a with|true=>(a,x)::jt live r|false=>jt live r
def tY:List Nat→St→St
 |[],s=>s
 |k::r,s=>tY r (match Nat.ble 100000 k with|true=>s|false=>s.drop k)
def clean(live dk:List Nat)(s:St):St:=
 match tY dk s with
 |s=>{s with tm:=jt live s.tm,kn:=[],gd:=[]}
structure Cv where
 box:Option Nat
 ix:Nat
 key:Nat
 e:Nat
 sz:Nat
 deriving Inhabited
def setAt{α:Type}:Nat→α→List α→List α
 |_,_,[]=>[]
 |0,y,_::r=>y::r
 |n+1,y,x::r=>x::setAt n y r
def x8(k:Nat)(es:List (List D)):V→V
 | .own j=>(match Nat.beq j k with|true=>.d (.sl es)|false=>.own j)
 |v=>v
def tD(k:Nat)(es:List (List D)):List V→List V
 |[]=>[]
 |v::r=>x8 k es v::tD k es r
def x9(k:Nat)(es:List (List D)):List (Nat×V)→List (Nat×V)
 |[]=>[]
 |(a,v)::r=>(a,x8 k es v)::x9 k es r
def tE(k:Nat)(es:List (List D)):List (Value×V)→List (Value×V)
 |[]=>[]
 |(a,v)::r=>(a,x8 k es v)::tE k es r
def rE(k:Nat)(es:List (List D)):List (Nat×B)→List (Nat×B)
 |[]=>[]
 |(a,b)::r=>(a,match b with | .box cs=>.box (tD k es cs) | .mp l=>.mp (tE k es l)|b=>b)::rE k es r
def FF(k:Nat)(es:List (List D)):List (List (Nat×V))→List (List (Nat×V))
 |[]=>[]
 |l::r=>x9 k es l::FF k es r
def St.tZ(s:St)(k:Nat)(es:List (List D)):St:=St.drop {tm:=x9 k es s.tm,hp:=rE k es s.hp,kn:=s.kn,gd:=[],rt:=FF k es s.rt} k
def cU:List Cv→St→St
 |[],s=>s
 |c::r,s=>
  cU r (match Nat.ble 1 c.sz,lk s.hp c.key with
   |true,none=>
    (match c.box with
     |none=>(match lk s.tm c.ix with|some .nil=>{s with tm:=pt s.tm c.ix (.own c.key),hp:=pt s.hp c.key (.bu c.e c.sz [])}|_=>s)
     |some b=>
      (match lk s.hp b with
       |some (.box cs)=>(match nth cs c.ix with|some .nil=>{s with hp:=pt (pt s.hp c.key (.bu c.e c.sz [])) b (.box (setAt c.ix (.own c.key) cs))}|_=>s)
       |_=>s))
   |false,some (.j9 _ es)=>(match Nat.ble 100000 c.key with|true=>s|false=>s.tZ c.key es)
   |false,some (.bu _ sz es)=>(match Nat.ble 100000 c.key with|true=>s|false=>(s.bp c.key (.j9 sz es)).tZ c.key es)
   |_,_=>s)
def TJ(live dk:List Nat)(cv:List Cv)(body:St→(Ex→St→Prop)→Prop)(s:St)(K:Ex→St→Prop):Prop:=
 ∃J:Nat→St→Prop,(∃n,J n (cU cv (clean live dk s)))∧∀n s',J n s'→body s' fun e t_=>match e with | .normal=>∃m,m<n∧J m (cU cv (clean live dk t_))|e=>K e t_
def gF(s:St):List V→Option (List Cp×St)
 |[]=>some ([],s)
 | .bW cs::r=>(match gF s r with|some (l,s)=>some (.ptr cs::l,s)|none=>none)
 | .ref k 0::r=>
   (match Nat.ble 100000 k,V.fK k r,lk s.hp k with
    |false,false,some (.box cs)=>
     (match jM s cs with
      |some (ds,s1)=>(match gF (s1.drop k) r with|some (l,s)=>some (.ptr ds::l,s)|none=>none)
      |none=>none)
    |_,_,_=>none)
 |c::r=>(match tV s c with|some (x,s)=>(match gF s r with|some (l,s)=>some (.d x::l,s)|none=>none)|none=>none)
def TK(s:St)(p:Nat)(v:V):St:={tm:=pt s.tm p v,hp:=s.hp,kn:=[],gd:=[],rt:=s.tm::s.rt}
def p7(s:St):St:=match s.rt with|tm::rt=>{tm:=tm,hp:=s.hp,kn:=[],gd:=[],rt:=rt}|[]=>{tm:=[],hp:=s.hp,kn:=[],gd:=[]}
def Wg:R→Option V
 | .d x=>some (.d x)
 | .agg cs=>some (.agg (vd cs))
 |_=>none
def NY(live dk:List Nat)(cv:List Cv)(xs:List R)(p:Nat)(assign body:St→(Ex→St→Prop)→Prop)(s:St)(K:Ex→St→Prop):Prop:=
 ∃J:Nat→St→Prop,J 0 (cU cv (clean live dk s))∧
  (∀i x s',xs[i]? = some x→J i s'→match Wg x with
   |none=>False
   |some v=>assign (TK s' p v) fun e s1=>match e with
    | .normal=>body s1 fun e s2=>match e with | .normal=>J (i+1) (cU cv (clean live dk (p7 s2)))|e=>K e (clean live dk (p7 s2))
    |_=>False)∧
  ∀s',J xs.length s'→K .normal s'
def cV:Code→Nat
 | .region id _ _=>id
 | .seq a _=>cV a
 | .cond _ a _=>cV a
 | .block _ b=>cV b
 | .loop b=>cV b
 |_=>0
def FG(s:St)(c:Operand)(X Y:St→Prop):Prop:=
 match c with
 | .tmp t=>
   (match lk s.kn t with
    |some true=>X s
    |some false=>Y s
    |none=>
     match lk s.tm t with
     |some (.d (.v (.bool b)))=>(b=true→X (s.ka t true))∧(b=false→Y (s.ka t false))
     |_=>False)
 | .const (.bool true)=>X s
 | .const (.bool false)=>Y s
 |_=>False
structure LX where
 X:Type
 sh:X→St
 P:X→Nat→X→Prop
 Y:Type:=Unit
 el:Y→R:=fun _=>.d (.sl [])
def Xi(l:LX)(live dk:List Nat)(cv:List Cv)(body:St→(Ex→St→Prop)→Prop)(s:St)(K:Ex→St→Prop):Prop:=
 ∃x0,(cU cv (clean live dk s)=l.sh x0∧∃n,l.P x0 n x0)∧
  ∀n x,l.P x0 n x→body (l.sh x) fun e t_=>match e with | .normal=>∃m x',m<n∧cU cv (clean live dk t_)=l.sh x'∧l.P x0 m x'|e=>K e t_
def TL(l:LX)(live dk:List Nat)(cv:List Cv)(xs:List R)(p:Nat)(assign body:St→(Ex→St→Prop)→Prop)(s:St)(K:Ex→St→Prop):Prop:=
 ∃x0,(cU cv (clean live dk s)=l.sh x0∧l.P x0 0 x0)∧(∀(i:Nat) (y:R),xs[i]? = some y→∃z,y=l.el z)∧
  (∀(i:Nat) (z:l.Y) (x:l.X),xs[i]? = some (l.el z)→l.P x0 i x→match Wg (l.el z)with
    |none=>False
    |some v=>assign (TK (l.sh x) p v) fun e s1=>match e with
     | .normal=>body s1 fun e s2=>match e with | .normal=>∃x',cU cv (clean live dk (p7 s2))=l.sh x'∧l.P x0 (i+1) x'|e=>K e (clean live dk (p7 s2))
     |_=>False)∧
  ∀x,l.P x0 xs.length x→K .normal (l.sh x)
structure Fi where
 keep:List Nat
 sc:List (Nat×js):=[]
 lp:List (Nat×(List Nat×List Nat)):=[]
 cv:List (Nat×List Cv):=[]
 lx:List (Nat×LX):=[]
def p8(E:Env)(C:aj)(I:Nat→List V→List V→St→(V→St→Prop)→Prop)(fi:Fi):Code→St→(Ex→St→Prop)→Prop
 | .skip,s,K=>K .normal s
 | .region _ ops false,s,K=>NW E C I ops.toList ops.toList s fun s=>K .normal (iL fi.keep ops.toList s)
 | .region id ops true,s,K=>(match lk fi.sc id with|none=>False|some zN=>rC E C I ops.toList (fun s=>K .normal (iL fi.keep ops.toList s)) zN [] s)
 | .seq a b,s,K=>p8 E C I fi a s fun e s=>match e with | .normal=>p8 E C I fi b s K|e=>K e s
 | .cond c a b,s,K=>FG s c (fun s=>p8 E C I fi a s K) (fun s=>p8 E C I fi b s K)
 | .block id b,s,K=>p8 E C I fi b s fun e s=>match e with | .exit i=>(match Nat.beq i id with|true=>K .normal s|false=>K (.exit i) s)|e=>K e s
 | .loop b,s,K=>(match lk fi.lp (cV b)with|none=>False|some (live,dk)=>(match lk fi.lx (cV b)with
   |none=>TJ live dk (match lk fi.cv (cV b)with|some cv=>cv|none=>[]) (fun s K=>p8 E C I fi b s K) s K
   |some l=>Xi l live dk (match lk fi.cv (cV b)with|some cv=>cv|none=>[]) (fun s K=>p8 E C I fi b s K) s K))
 | .exit id,s,K=>K (.exit id) s
 | .ret,s,K=>K .ret s
 | .rangeFunc g ps assign body,s,K=>
   (match ps.toList,lk fi.lp (cV assign),ev s [] g with
    |[p],some (live,dk),.fn f bY=>
     (match gF s bY with
      |none=>False
      |some (nx,s1)=>E.it f nx fun xs=>(match lk fi.lx (cV assign)with
       |none=>NY live dk (match lk fi.cv (cV assign)with|some cv=>cv|none=>[]) xs p (fun s K=>p8 E C I fi assign s K) (fun s K=>p8 E C I fi body s K) s1 K
       |some l=>TL l live dk (match lk fi.cv (cV assign)with|some cv=>cv|none=>[]) xs p (fun s K=>p8 E C I fi assign s K) (fun s K=>p8 E C I fi body s K) s1 K))
    |_,_,_=>False)
 |_,_,_=>False
def tF(E:Env)(s:St):List ResultVar→Option (List V)
 |[]=>some []
 | .tmp t::r=>match lk s.tm t,tF E s r with|some v,some l=>some (v::l)|_,_=>none
 | .cell a t::r=>
   match E.ti t,lk s.tm a with
   |some ti,some (.ref k off)=>
    (match lk s.hp k with
     |some (.box cs)=>
      (match cut off ti.ck.length cs with
       |some l=>(match fL ti.agg l,tF E s r with|some v,some l=>some (v::l)|_,_=>none)
       |none=>none)
     |_=>none)
   |_,_=>none
def jC:List R→Nat→Nat→St→St
 |[],_,_,s=>s
 | .d x::r,t,key,s=>jC r (t+1) key {s with tm:=pt s.tm t (.d x)}
 | .agg cs::r,t,key,s=>jC r (t+1) key {s with tm:=pt s.tm t (.agg (vd cs))}
 | .ptr cs::r,t,key,s=>jC r (t+1) key {s with tm:=pt s.tm t (.bW cs)}
 | .fn f bY::r,t,key,s=>jC r (t+1) key {s with tm:=pt s.tm t (.fn f (kV bY))}
 | .bu _ _ _::r,t,key,s=>jC r (t+1) key s
 | .box cs::r,t,key,s=>jC r (t+1) (key+1) {s with tm:=pt s.tm t (.ref key 0),hp:=pt s.hp key (.box (vd cs))}
def iD:List R→Nat→List Nat
 |[],_=>[]
 | .box _::r,key=>key::iD r (key+1)
 |_::r,key=>iD r key
def rF(s:St):List Nat→Option (List (List D)×St)
 |[]=>some ([],s)
 |k::r=>
  match lk s.hp k with
  |some (.box cs)=>(match jM s cs with
   |some (xs,s)=>(match rF s r with|some (l,s)=>some (xs::l,s)|none=>none)
   |none=>none)
  |_=>none
def TM(E:Env)(res:List ResultVar)(bk:List Nat)(Q:KT):Ex→St→Prop
 | .exit _,_=>False
 |_,s=>
  match tF E s res with
  |none=>False
  |some vs=>
   match oJ s vs with
   |none=>False
   |some (rs,ks,s)=>match ru (app ks bk),rF s bk with|true,some (fin,_)=>Q rs fin|_,_=>False
def vc(E:Env)(C:aj)(I:Nat→List V→List V→St→(V→St→Prop)→Prop)(fi:Fi)(body:Code)(res:List ResultVar)(args:List R)(Q:KT):Prop:=
 p8 E C I fi body (jC args 0 100000 {tm:=[],hp:=[],kn:=[],gd:=[]}) (TM E res (iD args 100000) Q)
def bf:Nat→List V→List V→St→(V→St→Prop)→Prop:=fun _ _ _ _ _=>False
end Go.Dm
