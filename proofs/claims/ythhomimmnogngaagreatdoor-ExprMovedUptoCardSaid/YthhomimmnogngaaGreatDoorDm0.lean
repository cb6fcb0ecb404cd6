/- A part of the proof: contracts of functions, by a verified generator of conditions; no condition of its own. -/
import Derived.Calls
namespace Go.Dm
inductive D where
 |v (x:Value)
 |sl (es:List (List D))
 |opq
 deriving Inhabited
inductive V where
 |dead
 |d (x:D)
 |nil
 |agg (cs:List V)
 |tup (vs:List V)
 |ref (k off:Nat)
 |own (k:Nat)
 |optr (k i off:Nat)
 |dptr (cs:List D)
 |fn (f:Nat) (caps:List V)
 |yld (l:Nat)
 |mref (k:Nat)
 |arrv (k n c:Nat)
 |vw (k lo n:Nat)
 deriving Inhabited
inductive B where
 |box (cs:List V)
 |lst (e sz:Nat) (es:List (List D))
 |fro (sz:Nat) (es:List (List D))
 |mp (es:List (Value×V))
 deriving Inhabited
abbrev V.i(n:Int):V:=.d (.v (.int .i64 n))
abbrev D.i(n:Int):D:=.v (.int .i64 n)
inductive CK where
 |int (k:IntKind)|bool|str|sl|ptr|fn|iface|map|other
 deriving DecidableEq,Inhabited
inductive TD where
 |plain|slice (e:Nat)|map (k e:Nat)|struct (fs:List (Nat×Nat))|arr (n e:Nat)|ptr (e:Nat)|iface|other
 deriving DecidableEq,Inhabited
structure TI where
 agg:Bool
 ck:List CK
 bytes:Nat
 td:TD
 eq:Bool:=false
 deriving DecidableEq,Inhabited
def lk{α:Type _}:List (Nat×α)→Nat→Option α
 |[],_=>none
 |(a,x)::r,k=>match Nat.beq a k with|true=>some x|false=>lk r k
def pt{α:Type}:List (Nat×α)→Nat→α→List (Nat×α)
 |[],k,v=>[(k,v)]
 |(a,x)::r,k,v=>
  match Nat.beq a k with
  |true=>(k,v)::r
  |false=>match Nat.ble k a with|true=>(k,v)::(a,x)::r|false=>(a,x)::pt r k v
def nth{α:Type}:List α→Nat→Option α
 |[],_=>none
 |x::_,0=>some x
 |_::r,n+1=>nth r n
def rm{α:Type}:List (Nat×α)→Nat→List (Nat×α)
 |[],_=>[]
 |(a,x)::r,k=>match Nat.beq a k with|true=>rm r k|false=>(a,x)::rm r k
structure St where
 tm:List (Nat×V)
 hp:List (Nat×B)
 kn:List (Nat×Bool)
 gd:List (Nat×(Nat×Bool×V))
 rt:List (List (Nat×V)):=[]
 deriving Inhabited
def ckZero:CK→V
 | .int k=>.d (.v (.int k 0))
 | .bool=>.d (.v (.bool false))
 | .str=>.d (.v (.string ⟨#[]⟩))
 | .sl=>.nil
 | .ptr=>.d (.v (.pointer none))
 | .fn=>.d (.v .nilFunc)
 | .iface=>.d (.v .nilIface)
 | .map=>.d (.v (.map none))
 | .other=>.dead
def zeros:List CK→List V
 |[]=>[]
 |c::r=>ckZero c::zeros r
def ofConst1:Value→Option V
 | .slice none 0 0=>some .nil
 | .bool b=>some (.d (.v (.bool b)))
 | .int k n=>some (.d (.v (.int k n)))
 | .string s=>some (.d (.v (.string s)))
 | .pointer none=>some (.d (.v (.pointer none)))
 | .nilFunc=>some (.d (.v .nilFunc))
 | .nilIface=>some (.d (.v .nilIface))
 | .map none=>some (.d (.v (.map none)))
 |_=>none
def ofConstL:List Value→Option (List V)
 |[]=>some []
 |x::r=>match ofConst1 x,ofConstL r with|some v,some l=>some (v::l)|_,_=>none
def ofConst:Value→V
 | .agg xs=>(match ofConstL xs.toList with|some l=>.agg l|none=>.dead)
 | .slice none 0 0=>.nil
 | .bool b=>.d (.v (.bool b))
 | .int k n=>.d (.v (.int k n))
 | .string s=>.d (.v (.string s))
 | .pointer none=>.d (.v (.pointer none))
 | .nilFunc=>.d (.v .nilFunc)
 | .nilIface=>.d (.v .nilIface)
 | .map none=>.d (.v (.map none))
 |_=>.dead
def gkn(s:St)(t:Nat)(want:Bool):Bool:=
 match lk s.kn t with|some b=>(match b,want with|true,true=>true|false,false=>true|_,_=>false)|none=>false
def inG:List (Nat×Bool)→Nat→Bool→Bool
 |[],_,_=>false
 |(u,w)::r,t,want=>
  match Nat.beq u t with
  |true=>(match w,want with|true,true=>true|false,false=>true|_,_=>inG r t want)
  |false=>inG r t want
def evT(s:St)(g:List (Nat×Bool))(t:Nat):V:=
 match lk s.tm t with
 |some x=>x
 |none=>
  match lk s.gd t with
  |none=>.dead
  |some (t',w',x)=>(match gkn s t' w' with|true=>x|false=>match inG g t' w' with|true=>x|false=>.dead)
def ev(s:St)(g:List (Nat×Bool)):Operand→V
 | .tmp t=>evT s g t
 | .const x=>ofConst x
 | .func f=>.fn f []
 | .global _=>.dead
def evs(s:St)(g:List (Nat×Bool)):List Operand→List V
 |[]=>[]
 |o::r=>ev s g o::evs s g r
def gclr:List (Nat×(Nat×Bool×V))→Nat→List (Nat×(Nat×Bool×V))
 |[],_=>[]
 |(a,(t,w,x))::r,k=>
  match Nat.beq t k,Nat.beq a k with
  |false,false=>(a,(t,w,x))::gclr r k
  |_,_=>(a,(t,w,.dead))::gclr r k
def St.put(s:St)(k:Nat)(v:V):St:={s with tm:=pt s.tm k v,kn:=rm s.kn k,gd:=gclr s.gd k}
def St.putG(s:St)(k:Nat)(g:Nat×Bool)(v:V):St:=
 {s with tm:=rm s.tm k,kn:=rm s.kn k,gd:=(match Nat.beq g.1 k with|true=>gclr s.gd k|false=>pt (gclr s.gd k) k (g.1,g.2,v))}
def St.kill(s:St)(k:Nat):St:={s with tm:=rm s.tm k,kn:=rm s.kn k,gd:=gclr s.gd k}
def St.know(s:St)(k:Nat)(b:Bool):St:={s with kn:=pt s.kn k b}
def St.setB(s:St)(k:Nat)(b:B):St:={s with hp:=pt s.hp k b}
mutual
def V.names(k:Nat):V→Bool
 | .ref j _=>Nat.beq j k
 | .own j=>Nat.beq j k
 | .optr j _ _=>Nat.beq j k
 | .mref j=>Nat.beq j k
 | .arrv j _ _=>Nat.beq j k
 | .vw j _ _=>Nat.beq j k
 | .agg cs=>V.namesL k cs
 | .tup cs=>V.namesL k cs
 | .fn _ cs=>V.namesL k cs
 |_=>false
def V.namesL(k:Nat):List V→Bool
 |[]=>false
 |v::r=>match V.names k v with|true=>true|false=>V.namesL k r
end
def strikeV(k:Nat)(v:V):V:=match V.names k v with|true=>.dead|false=>v
def strikeL(k:Nat):List V→List V
 |[]=>[]
 |v::r=>strikeV k v::strikeL k r
def strikeT(k:Nat):List (Nat×V)→List (Nat×V)
 |[]=>[]
 |(a,v)::r=>(a,strikeV k v)::strikeT k r
def strikeM(k:Nat):List (Value×V)→List (Value×V)
 |[]=>[]
 |(a,v)::r=>(a,strikeV k v)::strikeM k r
def strikeH(k:Nat):List (Nat×B)→List (Nat×B)
 |[]=>[]
 |(a,b)::r=>(a,match b with | .box cs=>.box (strikeL k cs) | .mp es=>.mp (strikeM k es)|b=>b)::strikeH k r
def strikeG(k:Nat):List (Nat×(Nat×Bool×V))→List (Nat×(Nat×Bool×V))
 |[]=>[]
 |(a,(t,w,v))::r=>(a,(t,w,strikeV k v))::strikeG k r
def strikeR(k:Nat):List (List (Nat×V))→List (List (Nat×V))
 |[]=>[]
 |l::r=>strikeT k l::strikeR k r
def St.strike(s:St)(k:Nat):St:={tm:=strikeT k s.tm,hp:=strikeH k s.hp,kn:=s.kn,gd:=strikeG k s.gd,rt:=strikeR k s.rt}
def St.drop(s:St)(k:Nat):St:={s.strike k with hp:=rm (strikeH k s.hp) k}
def toD(s:St):V→Option (D×St)
 | .d x=>some (x,s)
 | .nil=>some (.sl [],s)
 | .own k=>
   match lk s.hp k with
   |some (.lst _ sz es)=>some (.sl es,s.setB k (.fro sz es))
   |some (.fro _ es)=>some (.sl es,s)
   |_=>none
 | .vw k lo n=>
   match lk s.hp k with
   |some (.lst _ sz es)=>some (.sl ((es.take (lo+n)).drop lo),s.setB k (.fro sz es))
   |some (.fro _ es)=>some (.sl ((es.take (lo+n)).drop lo),s)
   |_=>none
 |_=>none
def toDs(s:St):List V→Option (List D×St)
 |[]=>some ([],s)
 |v::r=>
  match toD s v with
  |none=>none
  |some (x,s)=>match toDs s r with|none=>none|some (xs,s)=>some (x::xs,s)
inductive Cp where
 |d (x:D)
 |ptr (cs:List D)
 deriving Inhabited
inductive R where
 |d (x:D)
 |agg (cs:List D)
 |box (cs:List D)
 |ptr (cs:List D)
 |fn (f:Nat) (caps:List Cp)
 |lst (e sz:Nat) (es:List (List D))
 deriving Inhabited
def cpV:List Cp→List V
 |[]=>[]
 | .d x::r=>.d x::cpV r
 | .ptr cs::r=>.dptr cs::cpV r
def toCps:List V→Option (List Cp)
 |[]=>some []
 | .d x::r=>(match toCps r with|some l=>some (.d x::l)|none=>none)
 | .dptr cs::r=>(match toCps r with|some l=>some (.ptr cs::l)|none=>none)
 |_::_=>none
def toR(s:St):V→Option (R×Option Nat×St)
 | .agg cs=>match toDs s cs with|none=>none|some (xs,s)=>some (.agg xs,none,s)
 | .ref k 0=>
   match lk s.hp k with
   |some (.box cs)=>match toDs s cs with|none=>none|some (xs,s)=>some (.box xs,some k,s)
   |_=>none
 | .dptr cs=>some (.ptr cs,none,s)
 | .fn f caps=>(match toCps caps with|some l=>some (.fn f l,none,s)|none=>none)
 |v=>match toD s v with|none=>none|some (x,s)=>some (.d x,none,s)
def toRs(s:St):List V→Option (List R×List Nat×St)
 |[]=>some ([],[],s)
 |v::r=>
  match toR s v with
  |none=>none
  |some (x,k,s)=>
   match toRs s r with
   |none=>none
   |some (xs,ks,s)=>some (x::xs,(match k with|some k=>k::ks|none=>ks),s)
def vd:List D→List V
 |[]=>[]
 |x::r=>.d x::vd r
def setBoxes(s:St):List Nat→List (List D)→Option St
 |[],[]=>some s
 |k::ks,cs::r=>setBoxes (s.setB k (.box (vd cs))) ks r
 |_,_=>none
def ofR(s:St)(key:Nat):R→Option (V×St)
 | .d x=>some (.d x,s)
 | .agg cs=>some (.agg (vd cs),s)
 | .box cs=>(match lk s.hp key with|none=>some (.ref key 0,s.setB key (.box (vd cs)))|some _=>none)
 | .ptr cs=>some (.dptr cs,s)
 | .fn f caps=>some (.fn f (cpV caps),s)
 | .lst e sz es=>(match lk s.hp key with|none=>some (.own key,s.setB key (.lst e sz es))|some _=>none)
def ofRs(s:St)(key:Nat):List R→Option (List V×St)
 |[]=>some ([],s)
 |r::rs=>
  match ofR s key r with
  |none=>none
  |some (v,s)=>match ofRs s (key+1) rs with|none=>none|some (vs,s)=>some (v::vs,s)
def ofResults(s:St)(key:Nat):List R→Option (V×St)
 |[r]=>ofR s key r
 |rs=>match ofRs s key rs with|none=>none|some (vs,s)=>some (.tup vs,s)
def dropN{α:Type}:Nat→List α→List α
 |0,l=>l
 |_+1,[]=>[]
 |n+1,_::r=>dropN n r
def cut{α:Type}:Nat→Nat→List α→Option (List α)
 |0,0,_=>some []
 |0,_+1,[]=>none
 |0,n+1,x::r=>match cut 0 n r with|some l=>some (x::l)|none=>none
 |_+1,_,[]=>none
 |o+1,n,_::r=>cut o n r
def over{α:Type}:Nat→List α→List α→Option (List α)
 |0,[],l=>some l
 |0,_::_,[]=>none
 |0,x::xs,_::r=>match over 0 xs r with|some l=>some (x::l)|none=>none
 |_+1,_,[]=>none
 |o+1,xs,y::r=>match over o xs r with|some l=>some (y::l)|none=>none
def exK:List CK→(List D→Prop)→Prop
 |[],F=>F []
 | .int k::r,F=>∃n:Int,exK r fun l=>F (.v (.int k n)::l)
 | .bool::r,F=>∃b:Bool,exK r fun l=>F (.v (.bool b)::l)
 | .str::r,F=>∃b:ByteArray,exK r fun l=>F (.v (.string b)::l)
 | .sl::r,F=>∃es:List (List D),exK r fun l=>F (.sl es::l)
 |_::r,F=>∃x:D,exK r fun l=>F (x::l)
def cellsOf:V→Option (List V)
 | .agg cs=>some cs
 | .tup _=>none
 | .dead=>none
 |v=>some [v]
def ofCells(agg:Bool)(cs:List V):Option V:=
 match agg with
 |true=>some (.agg cs)
 |false=>match cs with|[c]=>some c|_=>none
def loadC(ti:TI)(cells:List D)(off:Nat)(K:V→Prop):Prop:=
 exK ti.ck fun l=>cut off ti.ck.length cells=some l∧(match ofCells ti.agg (vd l)with|some v=>K v|none=>False)
def aLoad(ti:TI)(s:St)(a:V)(K:V→Prop):Prop:=
 match a with
 | .ref k off=>
   match lk s.hp k with
   |some (.box cs)=>
    (match cut off ti.ck.length cs with
     |some l=>(match ofCells ti.agg l with|some v=>K v|none=>False)
     |none=>False)
   |_=>False
 | .optr k i off=>
   match lk s.hp k with
   |some (.lst _ _ es)=>∃cells,es[i]? = some cells∧loadC ti cells off K
   |some (.fro _ es)=>∃cells,es[i]? = some cells∧loadC ti cells off K
   |_=>False
 | .dptr cs=>loadC ti cs 0 K
 |_=>False
def cellV:V→Bool
 | .dead=>false
 | .agg _=>false
 | .tup _=>false
 |_=>true
def cellVs:List V→Bool
 |[]=>true
 |v::r=>match cellV v with|true=>cellVs r|false=>false
def aStore(ti:TI)(s:St)(a x:V)(K:St→Prop):Prop:=
 match cellsOf x with
 |none=>False
 |some xs=>
  match cellVs xs,Nat.beq xs.length ti.ck.length with
  |false,_=>False
  |true,false=>False
  |true,true=>
  match a with
  | .ref k off=>
    match lk s.hp k with
    |some (.box cs)=>(match over off xs cs with|some cs'=>K (s.setB k (.box cs'))|none=>False)
    |_=>False
  | .optr k i off=>
    match toDs s xs with
    |none=>False
    |some (ds,s)=>
     match lk s.hp k with
     |some (.lst e sz es)=>∃cells,es[i]? = some cells∧∃cells',over off ds cells=some cells'∧K (s.setB k (.lst e sz (es.set i cells')))
     |_=>False
  |_=>False
def aList(x:V)(s:St)(K:List (List D)→Prop):Prop:=
 match x with
 | .nil=>K []
 | .own k=>(match lk s.hp k with|some (.lst _ _ es)=>K es|some (.fro _ es)=>K es|_=>False)
 | .d y=>∃es,y = .sl es∧K es
 | .vw k lo n=>(match lk s.hp k with|some (.lst _ _ es)=>K ((es.take (lo+n)).drop lo)|_=>False)
 |_=>False
def ikNum:IntKind→Nat
 | .i8=>0 | .i16=>1 | .i32=>2 | .i64=>3 | .u8=>4 | .u16=>5 | .u32=>6 | .u64=>7
def eqCells:List CK→List V→List V→Option Bool
 |[],[],[]=>some true
 | .int _::r,.d (.v (.int k a))::xs,.d (.v (.int k' b))::ys=>match Nat.beq (ikNum k) (ikNum k'),eqCells r xs ys with|true,some t=>some ((a==b)&&t)|_,_=>none
 | .bool::r,.d (.v (.bool a))::xs,.d (.v (.bool b))::ys=>match eqCells r xs ys with|some t=>some ((a==b)&&t)|none=>none
 | .str::r,.d (.v (.string a))::xs,.d (.v (.string b))::ys=>match eqCells r xs ys with|some t=>some ((a==b)&&t)|none=>none
 |_,_,_=>none
def vbool(b:Bool):V:=.d (.v (.bool b))
def aInt(op:BinOp)(k:IntKind)(a b:Int)(K:V→Prop):Prop:=
 match op with
 | .add=>K (.d (.v (.int k (k.wrap (a+b)))))
 | .sub=>K (.d (.v (.int k (k.wrap (a-b)))))
 | .mul=>K (.d (.v (.int k (k.wrap (a*b)))))
 | .quo=>b≠0∧K (.d (.v (.int k (k.wrap (a.tdiv b)))))
 | .rem=>b≠0∧K (.d (.v (.int k (a.tmod b))))
 | .and=>K (.d (.v (.int k (bits .and k a b))))
 | .or=>K (.d (.v (.int k (bits .or k a b))))
 | .xor=>K (.d (.v (.int k (bits .xor k a b))))
 | .shl=>0≤b∧K (.d (.v (.int k (shl k a b))))
 | .shr=>0≤b∧K (.d (.v (.int k (shr k a b))))
 | .eql=>K (vbool (a==b))
 | .neq=>K (vbool (a != b))
 | .lss=>K (vbool (decide (a<b)))
 | .leq=>K (vbool (decide (a≤b)))
 | .gtr=>K (vbool (decide (a>b)))
 | .geq=>K (vbool (decide (a≥b)))
 |_=>False
 where
 bits (op:BinOp) (k:IntKind) (a b:Int):Int:=
  let x:=BitVec.ofInt k.bits a
  let y:=BitVec.ofInt k.bits b
  k.wrap ((match op with | .and=>x &&& y | .or=>x ||| y|_=>x ^^^ y).toNat)
 shl (k:IntKind) (a b:Int):Int:=k.wrap (a*2^(min b.toNat k.bits))
 shr (k:IntKind) (a b:Int):Int:=a.fdiv (2^(min b.toNat k.bits))
structure Env where
 te:List (Nat×TI)
 inl:List Nat:=[]
 off:Nat:=0
 it:Nat→List Cp→(List R→Prop)→Prop:=fun _ _ _=>False
 bw:List Nat:=[]
 con:Bool:=false
def Env.ti(E:Env)(t:Nat):Option TI:=lk E.te t
def aBin(E:Env)(op:BinOp)(t:Nat)(x y:V)(K:V→Prop):Prop:=
 match x,y with
 | .d (.v (.int k a)),.d (.v (.int k' b))=>
   (match op,Nat.beq (ikNum k) (ikNum k')with
    | .shl,_=>aInt op k a b K
    | .shr,_=>aInt op k a b K
    |_,true=>aInt op k a b K
    |_,false=>False)
 | .d (.v (.string a)),.d (.v (.string b))=>
   (match op with
    | .add=>a.size+b.size≤9223372036854775807∧K (.d (.v (.string (a++b))))
    | .eql=>K (vbool (a==b))
    | .neq=>K (vbool (!(a==b)))
    | .lss=>K (vbool (Op.bytesLess a.toList b.toList))
    | .leq=>K (vbool (Op.bytesLess a.toList b.toList||a==b))
    | .gtr=>K (vbool (!(Op.bytesLess a.toList b.toList||a==b)))
    | .geq=>K (vbool (!Op.bytesLess a.toList b.toList))
    |_=>False)
 | .d (.v (.bool a)),.d (.v (.bool b))=>
   (match E.ti t with
    |some {ck:=[.bool],td:=.plain,..}=>(match op with | .eql=>K (vbool (a==b)) | .neq=>K (vbool (!(a==b)))|_=>False)
    |_=>False)
 | .d (.v (.pointer none)),.d (.v (.pointer none))=>
   (match E.ti t with
    |some {td:=.ptr _,..}=>(match op with | .eql=>K (vbool true) | .neq=>K (vbool false)|_=>False)
    |_=>False)
 | .dptr _,.d (.v (.pointer none))=>
   (match E.ti t with
    |some {td:=.ptr _,..}=>(match op with | .eql=>K (vbool false) | .neq=>K (vbool true)|_=>False)
    |_=>False)
 | .ref _ _,.d (.v (.pointer none))=>
   (match E.ti t with
    |some {td:=.ptr _,..}=>(match op with | .eql=>K (vbool false) | .neq=>K (vbool true)|_=>False)
    |_=>False)
 | .d (.sl es),.nil=>
   (match E.ti t with
    |some {td:=.slice _,..}=>∀b:Bool,(b=true→es=[])→(match op with | .eql=>K (vbool b) | .neq=>K (vbool (!b))|_=>False)
    |_=>False)
 | .nil,.nil=>
   (match E.ti t with
    |some {td:=.slice _,..}=>(match op with | .eql=>K (vbool true) | .neq=>K (vbool false)|_=>False)
    |_=>False)
 | .agg xs,.agg ys=>
   (match E.ti t with
    |some ti=>
     (match ti.agg,ti.eq,eqCells ti.ck xs ys with
      |true,true,some b=>(match op with | .eql=>K (vbool b) | .neq=>K (vbool (!b))|_=>False)
      |_,_,_=>False)
    |none=>False)
 |_,_=>False
def aIfn(E:Env)(op:BinOp)(t:Nat)(x:V)(K:V→Prop):Prop:=
 match E.ti t with
 |some {td:=.iface,..}=>
  (match op,x with
   | .eql,.d .opq=>K (vbool false)
   | .neq,.d .opq=>K (vbool true)
   | .eql,.d (.v .nilIface)=>K (vbool true)
   | .neq,.d (.v .nilIface)=>K (vbool false)
   |_,_=>False)
 |_=>False
def isNilC:Operand→Bool
 | .const .nilIface=>true
 |_=>false
def bytesL:List UInt8→List (List D)
 |[]=>[]
 |c::r=>[.v (.int .u8 c.toNat)]::bytesL r
def allI:List V→Option (IntKind×List Int)
 |[]=>none
 |v::r=>
  match v with
  | .d (.v (.int k a))=>
    (match r with
     |[]=>some (k,[a])
     |_::_=>(match allI r with|some (k',l)=>(match Nat.beq (ikNum k) (ikNum k')with|true=>some (k,a::l)|false=>none)|none=>none))
  |_=>none
def allB:List V→Option (List Bool)
 |[]=>some []
 |v::r=>match v with | .d (.v (.bool a))=>(match allB r with|some l=>some (a::l)|none=>none)|_=>none
def allS:List V→Option (List ByteArray)
 |[]=>some []
 |v::r=>match v with | .d (.v (.string a))=>(match allS r with|some l=>some (a::l)|none=>none)|_=>none
def aIdxL(agg:Bool)(sz:Nat)(cs:List V)(n:Int)(K:V→Prop):Nat→Nat→Prop
 |_,0=>True
 |j,f+1=>(n=(j:Int)→match cut (j*sz) sz cs with|some l=>(match ofCells agg l with|some v=>K v|none=>False)|none=>False)∧aIdxL agg sz cs n K (Nat.succ j) f
def aIdx(ei:TI)(cs:List V)(len:Nat)(n:Int)(K:V→Prop):Prop:=
 match ei.agg,Nat.beq ei.ck.length 1,Nat.beq cs.length len with
 |false,true,true=>
  (match allI cs with
   |some (k,l)=>K (.d (.v (.int k (l.getD n.toNat 0))))
   |none=>
    match allB cs with
    |some l=>K (.d (.v (.bool (l.getD n.toNat false))))
    |none=>
     match allS cs with
     |some l=>K (.d (.v (.string (l.getD n.toNat ⟨#[]⟩))))
     |none=>aIdxL ei.agg ei.ck.length cs n K 0 len)
 |_,_,_=>aIdxL ei.agg ei.ck.length cs n K 0 len
def aCut(E:Env)(s:St)(g:List (Nat×Bool))(t:Nat)(lo hi:Option Operand)(k sz b n:Nat)(K:V→Prop):Prop:=
 match E.ti t with
 |some {td:=.slice e,..}=>
  (match E.ti e with
   |some ei=>sz=ei.ck.length∧∃l h:Nat,(match lo with|some o=>ev s g o = .d (.v (.int .i64 l))|none=>l=0)∧
       (match hi with|some o=>ev s g o = .d (.v (.int .i64 h))|none=>h=n)∧l≤h∧h≤n∧K (.vw k (b+l) (h-l))
   |none=>False)
 |_=>False
def stretch(s:St):V→Option (Nat×Nat×Nat)
 | .own k=>(match lk s.hp k with|some (.lst _ _ es)=>some (k,0,es.length)|_=>none)
 | .vw k lo n=>(match lk s.hp k with|some (.lst _ _ _)=>some (k,lo,n)|_=>none)
 |_=>none
def aVal(E:Env)(s:St)(g:List (Nat×Bool))(op:Op)(K:V→Prop):Prop:=
 match op with
 | .move x=>K (ev s g x)
 | .assign x=>K (ev s g x)
 | .pick c a b=>
   (match ev s g c,ev s g a,ev s g b with
    | .d (.v (.bool t)),.d (.v (.bool x)),.d (.v (.bool y))=>K (vbool (cond t x y))
    |_,_,_=>False)
 | .load t a=>(match E.ti t with|some ti=>aLoad ti s (ev s g a) K|none=>False)
 | .nilCheck x=>
   (match ev s g x with
    | .ref k o=>K (.ref k o)
    | .optr k i o=>K (.optr k i o)
    | .dptr cs=>K (.dptr cs)
    | .fn f cs=>K (.fn f cs)
    |_=>False)
 | .binOp op t x y _=>(match isNilC y with|true=>aIfn E op t (ev s g x) K|false=>aBin E op t (ev s g x) (ev s g y) K)
 | .unOp op _ x=>
   (match op,ev s g x with
    | .not,.d (.v (.bool b))=>K (vbool (!b))
    | .neg,.d (.v (.int k n))=>K (.d (.v (.int k (k.wrap (0-n)))))
    | .xor,.d (.v (.int k n))=>K (.d (.v (.int k (aInt.bits .xor k (if k.signed then -1 else k.max) n))))
    |_,_=>False)
 | .convert t0 t x=>
   (match E.ti t0,E.ti t,ev s g x with
    |some {td:=.plain,..},some {ck:=[.int k],td:=.plain,..},.d (.v (.int _ n))=>K (.d (.v (.int k (k.wrap n))))
    |some {td:=.plain,..},some {ck:=[.str],td:=.plain,..},.d (.v (.string b))=>K (.d (.v (.string b)))
    |some {td:=.slice e,..},some {ck:=[.str],td:=.plain,..},v=>
     (match E.ti e with
      |some {ck:=[.int .u8],td:=.plain,..}=>aList v s fun es=>∃b:ByteArray,es=bytesL b.data.toList∧K (.d (.v (.string b)))
      |_=>False)
    |_,_,_=>False)
 | .extract x i=>
   (match ev s g x with
    | .tup vs=>(match nth vs i with|some v=>K v|none=>False)
    |_=>False)
 | .fieldAddr t x f=>
   (match E.ti t with
    |some {td:=.struct fs,..}=>
     (match nth fs f with
      |some (o,ft)=>
       (match E.ti ft,ev s g x with
        |some _,.ref k off=>K (.ref k (off+o))
        |some _,.optr k i off=>K (.optr k i (off+o))
        |some _,.dptr cs=>K (.dptr (dropN o cs))
        |_,_=>False)
      |none=>False)
    |_=>False)
 | .field t x f=>
   (match E.ti t with
    |some {td:=.struct fs,..}=>
     (match nth fs f with
      |some (o,ft)=>
       (match E.ti ft,ev s g x with
        |some fi,.agg cs=>
         (match cut o fi.ck.length cs with
          |some l=>(match ofCells fi.agg l with|some v=>K v|none=>False)
          |none=>False)
        |_,_=>False)
      |none=>False)
    |_=>False)
 | .indexAddr t x i=>
   (match E.ti t,ev s g i with
    |some {td:=.slice e,..},.d (.v (.int _ n))=>
     (match E.ti e with
      |some ei=>
       (match ev s g x with
        | .own k=>
          (match lk s.hp k with
           |some (.lst _ sz es)=>(0≤n∧n<(es.length:Int))∧sz=ei.ck.length∧K (.optr k n.toNat 0)
           |some (.fro sz es)=>(0≤n∧n<(es.length:Int))∧sz=ei.ck.length∧K (.optr k n.toNat 0)
           |_=>False)
        | .d y=>∃es,y = .sl es∧(0≤n∧n<(es.length:Int))∧∃cells,es[n.toNat]? = some cells∧cells.length=ei.ck.length∧K (.dptr cells)
        | .vw k lo m=>
          (match lk s.hp k with
           |some (.lst _ sz _)=>(0≤n∧n<(m:Int))∧sz=ei.ck.length∧K (.optr k (lo+n.toNat) 0)
           |_=>False)
        |_=>False)
      |none=>False)
    |some {td:=.arr len e,..},.d (.v (.int _ n))=>
     (match E.ti e with
      |some ei=>
       (0≤n∧n<(len:Int))∧
       (match ev s g x with
        | .ref k off=>K (.ref k (off+n.toNat*ei.ck.length))
        | .optr k i off=>K (.optr k i (off+n.toNat*ei.ck.length))
        | .dptr cs=>K (.dptr (dropN (n.toNat*ei.ck.length) cs))
        |_=>False)
      |none=>False)
    |_,_=>False)
 | .index t x i=>
   (match ev s g x,ev s g i with
    | .d (.v (.string b)),.d (.v (.int _ n))=>0≤n∧(match E.ti t with|some {ck:=[.str],td:=.plain,..}=>True|_=>False)∧∃c,b[n.toNat]? = some c∧K (.d (.v (.int .u8 c.toNat)))
    | .agg cs,.d (.v (.int _ n))=>
      (match E.ti t with
       |some {td:=.arr len e,..}=>
        (match E.ti e with
         |some ei=>(0≤n∧n<(len:Int))∧aIdx ei cs len n K
         |none=>False)
       |_=>False)
    |_,_=>False)
 | .slice t x lo hi none=>
   (match ev s g x with
    | .d (.v (.string b))=>
      ∃l h:Nat,(match lo with|some o=>ev s g o = .d (.v (.int .i64 l))|none=>l=0)∧
       (match hi with|some o=>ev s g o = .d (.v (.int .i64 h))|none=>h=b.size)∧l≤h∧h≤b.size∧
       (match E.ti t with|some {ck:=[.str],td:=.plain,..}=>True|_=>False)∧K (.d (.v (.string (b.extract l h))))
    | .d y=>
      ∃es,y = .sl es∧∃l h:Nat,(match lo with|some o=>ev s g o = .d (.v (.int .i64 l))|none=>l=0)∧
       (match hi with|some o=>ev s g o = .d (.v (.int .i64 h))|none=>h=es.length)∧l≤h∧h≤es.length∧
       (match E.ti t with|some {td:=.slice e,..}=>(match E.ti e with|some ei=>(∀c∈es,c.length=ei.ck.length)|none=>False)|_=>False)∧
       K (.d (.sl ((es.take h).drop l)))
    | .ref k 0=>
      (match lo,hi,E.ti t with
       |none,none,some {td:=.arr n e,..}=>(match E.ti e with|some ei=>K (.arrv k n ei.ck.length)|none=>False)
       |_,_,_=>False)
    | .own k=>(match lk s.hp k with|some (.lst _ sz es)=>0<es.length∧aCut E s g t lo hi k sz 0 es.length K|_=>False)
    | .vw k b n=>(match lk s.hp k with|some (.lst _ sz _)=>aCut E s g t lo hi k sz b n K|_=>False)
    |_=>False)
 | .slice t x lo hi (some mx)=>
   (match ev s g x with
    | .d y=>
      ∃es,y = .sl es∧∃l h m:Nat,(match lo with|some o=>ev s g o = .d (.v (.int .i64 l))|none=>l=0)∧
       (match hi with|some o=>ev s g o = .d (.v (.int .i64 h))|none=>False)∧ev s g mx = .d (.v (.int .i64 m))∧l≤h∧h≤m∧m≤es.length∧
       (match E.ti t with|some {td:=.slice e,..}=>(match E.ti e with|some ei=>(∀c∈es,c.length=ei.ck.length)|none=>False)|_=>False)∧
       K (.d (.sl ((es.take h).drop l)))
    |_=>False)
 | .build t parts=>
   (match E.ti t with
    |some {agg:=true,ck:=ck,td:=.struct fs,..}=>
     (match fillS E s g fs (zeros ck) parts.toList with|some cs=>K (.agg cs)|none=>False)
    |some {agg:=true,ck:=ck,td:=.arr _ e,..}=>
     (match E.ti e with
      |some ei=>(match fillA s g ei.ck.length (zeros ck) parts.toList with|some cs=>K (.agg cs)|none=>False)
      |none=>False)
    |_=>False)
 | .makeFunc (.func f) first caps=>
   (match first.toList with
    |[]=>K (.fn f (evs s g caps.toList))
    |_=>False)
 | .call {callee:=.builtin .len,args:=args,argTypes:=tys}=>
   (match args.toList,tys.toList with
    |[x],[t]=>
     (match ev s g x,E.ti t with
      | .d (.v (.string b)),some {ck:=[.str],td:=.plain,..}=>K (.d (.v (.int .i64 b.size)))
      |v,some {td:=.slice _,..}=>aList v s fun es=>K (.d (.v (.int .i64 es.length)))
      |_,_=>False)
    |_,_=>False)
 | .call {callee:=.builtin .min,args:=args,..}=>
   (match evs s g args.toList with
    |[.d (.v (.int k a)),.d (.v (.int _ b))]=>K (.d (.v (.int k (if b<a then b else a))))
    |_=>False)
 | .call {callee:=.builtin .max,args:=args,..}=>
   (match evs s g args.toList with
    |[.d (.v (.int k a)),.d (.v (.int _ b))]=>K (.d (.v (.int k (if b>a then b else a))))
    |_=>False)
 |_=>False
 where
 fillS (E:Env) (s:St) (g:List (Nat×Bool)) (fs:List (Nat×Nat)) (cs:List V):List (Nat×Operand)→Option (List V)
  |[]=>some cs
  |(i,x)::r=>
   match nth fs i with
   |none=>none
   |some (o,ft)=>
    match E.ti ft,cellsOf (ev s g x)with
    |some fi,some xs=>
     (match Nat.beq xs.length fi.ck.length with
      |true=>(match over o xs cs with|some cs=>fillS E s g fs cs r|none=>none)
      |false=>none)
    |_,_=>none
 fillA (s:St) (g:List (Nat×Bool)) (sz:Nat) (cs:List V):List (Nat×Operand)→Option (List V)
  |[]=>some cs
  |(i,x)::r=>
   match cellsOf (ev s g x)with
   |some xs=>
    (match Nat.beq xs.length sz with
     |true=>(match over (i*sz) xs cs with|some cs=>fillA s g sz cs r|none=>none)
     |false=>none)
   |none=>none
inductive Ex where
 |normal|exit (id:Nat)|ret
 deriving Inhabited
abbrev KT:=List R→List (List D)→Prop
abbrev CallT:=Nat→List R→KT→Prop
def mem:List Nat→Nat→Bool
 |[],_=>false
 |a::r,k=>match Nat.beq a k with|true=>true|false=>mem r k
def nodupB:List Nat→Bool
 |[]=>true
 |a::r=>match mem r a with|true=>false|false=>nodupB r
def pureV:V→Bool
 | .d _=>true
 | .nil=>true
 | .agg cs=>pureL cs
 |_=>false
 where
 pureL:List V→Bool
  |[]=>true
  | .d _::r=>pureL r
  | .nil::r=>pureL r
  |_::_=>false
def pureVs:List V→Bool
 |[]=>true
 |v::r=>match pureV v with|true=>pureVs r|false=>false
def noBox:List R→Bool
 |[]=>true
 | .box _::_=>false
 | .lst _ _ _::_=>false
 |_::r=>noBox r
def aCallPure(C:CallT)(s:St)(f:Nat)(args:List V)(K:V→Prop):Prop:=
 match pureVs args with
 |false=>False
 |true=>
  match toRs s args with
  |none=>False
  |some (rs,_,_)=>C f rs fun res fin=>
   match fin,noBox res with
   |[],true=>(match ofResults s 0 res with|some (v,_)=>K v|none=>False)
   |_,_=>False
def aCallAny(C:CallT)(s:St)(key:Nat)(f:Nat)(args:List V)(K:V→St→Prop):Prop:=
 match toRs s args with
 |none=>False
 |some (rs,ks,s)=>
  match nodupB ks with
  |false=>False
  |true=>C f rs fun res fin=>
   match setBoxes s ks fin with
   |none=>False
   |some s=>(match ofResults s key res with|some (v,s)=>K v s|none=>False)
def chunks{α:Type}(sz:Nat):Nat→List α→Option (List (List α))
 |0,[]=>some []
 |0,_::_=>none
 |n+1,l=>match cut 0 sz l with|none=>none|some c=>match chunks sz n (l.drop sz)with|none=>none|some r=>some (c::r)
def viewD(s:St):V→Option D
 | .d x=>some x
 | .nil=>some (.sl [])
 | .own k=>
   match lk s.hp k with
   |some (.lst _ _ es)=>some (.sl es)
   |some (.fro _ es)=>some (.sl es)
   |_=>none
 | .vw k lo n=>
   match lk s.hp k with
   |some (.lst _ _ es)=>some (.sl ((es.take (lo+n)).drop lo))
   |some (.fro _ es)=>some (.sl ((es.take (lo+n)).drop lo))
   |_=>none
 |_=>none
def viewDs(s:St):List V→Option (List D)
 |[]=>some []
 |v::r=>match viewD s v with|none=>none|some x=>match viewDs s r with|none=>none|some xs=>some (x::xs)
def viewP(s:St)(k off:Nat):Option (List D):=
 match lk s.hp k with
 |some (.box cs)=>(match viewDs s cs with|some ds=>some (dropN off ds)|none=>none)
 |_=>none
def viewCps(s:St):List V→Option (List Cp)
 |[]=>some []
 | .ref k off::r=>(match viewP s k off,viewCps s r with|some ds,some l=>some (.ptr ds::l)|_,_=>none)
 | .dptr cs::r=>(match viewCps s r with|some l=>some (.ptr cs::l)|none=>none)
 |v::r=>(match viewD s v,viewCps s r with|some x,some l=>some (.d x::l)|_,_=>none)
def viewR(s:St):V→Option R
 | .agg cs=>(match viewDs s cs with|some ds=>some (.agg ds)|none=>none)
 | .ref k off=>(match viewP s k off with|some ds=>some (.ptr ds)|none=>none)
 | .dptr cs=>some (.ptr cs)
 | .arrv k n c=>(match viewP s k 0 with|some ds=>(match chunks c n ds with|some es=>some (.d (.sl es))|none=>none)|none=>none)
 | .fn f caps=>(match viewCps s caps with|some l=>some (.fn f l)|none=>none)
 |v=>(match viewD s v with|some x=>some (.d x)|none=>none)
def viewRs(s:St):List V→Option (List R)
 |[]=>some []
 |v::r=>match viewR s v with|none=>none|some x=>match viewRs s r with|none=>none|some xs=>some (x::xs)
def plainDs:List D→Bool
 |[]=>true
 | .v _::r=>plainDs r
 |_::_=>false
def plainRes:List R→Option (List V)
 |[]=>some []
 | .d (.v x)::r=>(match plainRes r with|some l=>some (.d (.v x)::l)|none=>none)
 | .agg cs::r=>(match plainDs cs,plainRes r with|true,some l=>some (.agg (vd cs)::l)|_,_=>none)
 |_::_=>none
def oneV:List V→V
 |[v]=>v
 |vs=>.tup vs
def aCallB(C:CallT)(s:St)(f:Nat)(args:List V)(K:V→Prop):Prop:=
 match viewRs s args with
 |none=>False
 |some rs=>C f rs fun res fin=>
  match fin,plainRes res with
  |[],some vs=>K (oneV vs)
  |_,_=>False
def app{α:Type}:List α→List α→List α
 |[],b=>b
 |x::r,b=>x::app r b
def rep{α:Type}:Nat→List α→List α
 |0,_=>[]
 |n+1,l=>app l (rep n l)
def dZeros:List CK→Option (List D)
 |[]=>some []
 |c::r=>
  match ckZero c,dZeros r with
  | .d x,some l=>some (x::l)
  | .nil,some l=>some (.sl []::l)
  |_,_=>none
def keyB(ki:TI)(k:Value):Bool:=
 match ki.td,ki.ck,k with
 | .plain,[.str],.string _=>true
 | .plain,[.int q],.int q' _=>Nat.beq (ikNum q) (ikNum q')
 |_,_,_=>false
def aFind(k:Value):List (Value×V)→(V→Prop)→Prop→Prop
 |[],_,N=>N
 |(a,v)::r,Y,N=>
  match k,a with
  | .string y,.string x=>((y==x)=true→Y v)∧((y==x)=false→aFind k r Y N)
  | .int q y,.int q' x=>(match Nat.beq (ikNum q) (ikNum q')with|true=>((y==x)=true→Y v)∧((y==x)=false→aFind k r Y N)|false=>False)
  |_,_=>False
def aPut(k:Value)(v:V)(pre:List (Value×V)):List (Value×V)→(List (Value×V)→Prop)→Prop
 |[],K=>K (app pre [(k,v)])
 |(a,y)::r,K=>
  match k,a with
  | .string u,.string x=>((u==x)=true→K (app pre ((k,v)::r)))∧((u==x)=false→aPut k v (app pre [(a,y)]) r K)
  | .int q u,.int q' x=>(match Nat.beq (ikNum q) (ikNum q')with|true=>((u==x)=true→K (app pre ((k,v)::r)))∧((u==x)=false→aPut k v (app pre [(a,y)]) r K)|false=>False)
  |_,_=>False
def aHeap(E:Env)(C:CallT)(I:Nat→List V→List V→St→(V→St→Prop)→Prop)(s:St)(g:List (Nat×Bool))(key:Nat)(op:Op)(K:V→St→Prop):Prop:=
 match op with
 | .alloc t=>
   (match E.ti t,lk s.hp key with
    |some ti,none=>K (.ref key 0) (s.setB key (.box (zeros ti.ck)))
    |_,_=>False)
 | .box t x=>
   (match E.ti t,lk s.hp key,cellsOf (ev s g x)with
    |some ti,none,some cs=>(match Nat.beq cs.length ti.ck.length with|true=>K (.ref key 0) (s.setB key (.box cs))|false=>False)
    |_,_,_=>False)
 | .store t a x=>(match E.ti t with|some ti=>aStore ti s (ev s g a) (ev s g x) fun s=>K .dead s|none=>False)
 | .makeMap t none=>
   (match E.ti t,lk s.hp key with
    |some {td:=.map _ _,..},none=>K (.mref key) (s.setB key (.mp []))
    |_,_=>False)
 | .lookup t x ix cok=>
   (match E.ti t,ev s g x,ev s g ix with
    |some {td:=.map kt et,..},.mref j,.d (.v k)=>
     (match E.ti kt,E.ti et,lk s.hp j with
      |some ki,some ei,some (.mp es)=>
       (match keyB ki k,ei.agg,zeros ei.ck with
        |true,false,[z]=>
         (match cok with
          |true=>aFind k es (fun v=>K (.tup [v,vbool true]) s) (K (.tup [z,vbool false]) s)
          |false=>aFind k es (fun v=>K v s) (K z s))
        |_,_,_=>False)
      |_,_,_=>False)
    |_,_,_=>False)
 | .mapUpdate t m k x=>
   (match E.ti t,ev s g m,ev s g k with
    |some {td:=.map kt et,..},.mref j,.d (.v kv)=>
     (match E.ti kt,E.ti et,lk s.hp j,cellV (ev s g x)with
      |some ki,some ei,some (.mp es),true=>
       (match keyB ki kv,ei.agg with
        |true,false=>aPut kv (ev s g x) [] es fun es'=>K .dead (s.setB j (.mp es'))
        |_,_=>False)
      |_,_,_,_=>False)
    |_,_,_=>False)
 | .insert t m k x=>
   (match E.ti t,ev s g m,ev s g k with
    |some {td:=.map kt et,..},.mref j,.d (.v kv)=>
     (match E.ti kt,E.ti et,lk s.hp j,cellV (ev s g x)with
      |some ki,some ei,some (.mp es),true=>
       (match keyB ki kv,ei.agg with
        |true,false=>aPut kv (ev s g x) [] es fun es'=>K .dead (s.setB j (.mp es'))
        |_,_=>False)
      |_,_,_,_=>False)
    |_,_,_=>False)
 | .buildSlice t len parts=>
   (match E.ti t,lk s.hp key with
    |some {td:=.slice e,..},none=>
     (match E.ti e with
      |some ei=>
       (match Nat.ble (len*ei.ck.length) 16777216,aVal.fillA s g ei.ck.length (rep len (zeros ei.ck)) parts.toList with
        |true,some cs=>
         (match toDs s cs with
          |some (ds,s)=>(match chunks ei.ck.length len ds with|some es=>K (.own key) (s.setB key (.lst e ei.ck.length es))|none=>False)
          |none=>False)
        |_,_=>False)
      |none=>False)
    |_,_=>False)
 | .makeSlice t n c=>
   (match E.ti t,lk s.hp key,ev s g n,ev s g c with
    |some {td:=.slice e,..},none,.d (.v (.int .i64 n)),.d (.v (.int .i64 c))=>
     (match E.ti e with
      |some ei=>0≤n∧n≤c∧c*ei.bytes≤140737488355328∧c≤140737488355328∧
       (match dZeros ei.ck with|some z=>K (.own key) (s.setB key (.lst e ei.ck.length (List.replicate n.toNat z)))|none=>False)
      |none=>False)
    |_,_,_,_=>False)
 | .call {callee:=.builtin .append,args:=args,argTypes:=tys}=>
   (match evs s g args.toList,tys.toList with
    |[a,b],[t,t']=>
     (match E.ti t,Nat.beq t t' with
      |some {td:=.slice e,..},true=>
       (match E.ti e with
        |some ei=>
         (match Nat.ble 1 ei.bytes with
          |false=>False
          |true=>aList b s fun new=>
            (∀c∈new,c.length=ei.ck.length)∧
            (match a with
             | .nil=>(match lk s.hp key with
               |none=>(new.length:Int)*ei.bytes≤140737488355328∧K (.own key) (s.setB key (.lst e ei.ck.length new))
               |some _=>False)
             | .own k=>(match lk s.hp k with
               |some (.lst e' sz es)=>e'=e∧sz=ei.ck.length∧((es.length+new.length:Nat):Int)*ei.bytes≤140737488355328∧K (.own k) ((s.strike k).setB k (.lst e sz (es++new)))
               |_=>False)
             |_=>False))
        |none=>False)
      |_,_=>False)
    |_,_=>False)
 | .call {callee:=.builtin .clear,args:=args,argTypes:=tys}=>
   (match args.toList,tys.toList with
    |[x],[t]=>
     (match E.ti t,stretch s (ev s g x)with
      |some {td:=.slice e,..},some (k,lo,n)=>
       (match E.ti e,lk s.hp k with
        |some ei,some (.lst e' sz es)=>
         (match dZeros ei.ck with
          |some z=>sz=ei.ck.length∧K .dead (s.setB k (.lst e' sz (es.take lo++List.replicate n z++es.drop (lo+n))))
          |none=>False)
        |_,_=>False)
      |_,_=>False)
    |_,_=>False)
 | .call {callee:=.builtin .copy,args:=args,argTypes:=tys}=>
   (match args.toList,tys.toList with
    |[x,y],[t,_]=>
     (match E.ti t,stretch s (ev s g x)with
      |some {td:=.slice e,..},some (k,lo,n)=>
       (match E.ti e,lk s.hp k with
        |some ei,some (.lst e' sz es)=>aList (ev s g y) s fun new=>
         sz=ei.ck.length∧(∀c∈new,c.length=sz)∧
         K (.d (.v (.int .i64 (new.take n).length))) (s.setB k (.lst e' sz (es.take lo++new.take n++es.drop (lo+(new.take n).length))))
        |_,_=>False)
      |_,_=>False)
    |_,_=>False)
 | .call {callee:=.value f,args:=args,..}=>
   (match ev s g f with
    | .fn f caps=>
      (match mem E.bw f with
       |true=>aCallB C s f (app (evs s g args.toList) caps) fun v=>K v s
       |false=>(match mem E.inl f with
        |true=>I f (evs s g args.toList) caps s K
        |false=>aCallAny C s key f (app (evs s g args.toList) caps) K))
    |_=>False)
 |_=>False
def specOp:Op→Bool
 | .move _ | .assign _ | .load .. | .binOp .. | .unOp .. | .extract .. | .fieldAddr .. | .field .. | .pick .. | .nilCheck _=>true
 | .call {callee:=.builtin .len,..}=>true
 |_=>false
def guardSlot(ops:List Oper)(j:Nat):Option Nat:=match nth ops j with|some o=>o.dst|none=>none
def splitG:Nat→St→Nat→Bool→(St→Prop)→(St→Prop)→Prop
 |0,_,_,_,_,_=>False
 |n+1,s,t,want,Y,N=>
  match lk s.kn t with
  |some b=>(match b,want with|true,true=>Y s|false,false=>Y s|_,_=>N s)
  |none=>
   match lk s.tm t with
   |some (.d (.v (.bool b)))=>(b=want→Y (s.know t want))∧(b = !want→N (s.know t (!want)))
   |some _=>False
   |none=>
    match lk s.gd t with
    |some (t',w',.d (.v (.bool b)))=>
     splitG n s t' w' (fun s=>(b=want→Y (s.know t want))∧(b = !want→N (s.know t (!want)))) N
    |_=>False
def putO(s:St)(d:Option Nat)(v:V):St:=
 match d with
 |none=>s
 |some d=>(match v with | .dead=>s.kill d|v=>s.put d v)
def putGO(s:St)(d:Option Nat)(g:Nat×Bool)(v:V):St:=
 match d with
 |none=>s
 |some d=>(match v with | .dead=>s.kill d|v=>s.putG d g v)
def aPick(s:St)(g:List (Nat×Bool))(c a b:Operand)(K:V→St→Prop):Prop:=
 match c with
 | .tmp t=>
   (match lk s.kn t with
    |some true=>K (ev s g a) s
    |some false=>K (ev s g b) s
    |none=>
     match evT s g t,ev s ((t,true)::g) a,ev s ((t,false)::g) b with
     | .d (.v (.bool x)),.d (.v (.bool y)),.d (.v (.bool z))=>K (vbool (cond x y z)) s
     | .d (.v (.bool x)),va,vb=>(x=true→K va (s.know t true))∧(x=false→K vb (s.know t false))
     |_,_,_=>False)
 | .const (.bool true)=>K (ev s g a) s
 | .const (.bool false)=>K (ev s g b) s
 |_=>False
def nextKey:List (Nat×B)→Nat→Nat
 |[],n=>n
 |(k,_)::r,n=>nextKey r (match Nat.ble n k with|true=>Nat.succ k|false=>n)
def freshK(hp:List (Nat×B))(k:Nat):Nat:=match lk hp k with|none=>k|some _=>nextKey hp k
def aOp(E:Env)(C:CallT)(I:Nat→List V→List V→St→(V→St→Prop)→Prop)(s:St)(g:List (Nat×Bool))(o:Oper)(K:V→St→Prop):Prop:=
 match o.op with
 | .pick c a b=>aPick s g c a b K
 | .alloc .. | .box .. | .store .. | .buildSlice .. | .makeSlice .. =>aHeap E C I s g (freshK s.hp (E.off+o.dst.getD 0)) o.op K
 | .call {callee:=.builtin .append,..}=>aHeap E C I s g (freshK s.hp (E.off+o.dst.getD 0)) o.op K
 | .call {callee:=.builtin .clear,..}=>aHeap E C I s g (freshK s.hp (E.off+o.dst.getD 0)) o.op K
 | .call {callee:=.builtin .copy,..}=>aHeap E C I s g (freshK s.hp (E.off+o.dst.getD 0)) o.op K
 | .makeMap .. | .lookup .. | .mapUpdate .. | .insert .. =>aHeap E C I s g (freshK s.hp (E.off+o.dst.getD 0)) o.op K
 | .call {callee:=.value _,..}=>aHeap E C I s g (freshK s.hp (E.off+o.dst.getD 0)) o.op K
 |op=>aVal E s g op fun v=>K v s
def addrKey:V→List Nat
 | .ref k _=>[k]
 | .optr k _ _=>[k]
 |_=>[]
def mapKey:V→List Nat
 | .mref k=>[k]
 |_=>[]
def ownKey:V→List Nat
 | .own k=>[k]
 | .vw k _ _=>[k]
 |_=>[]
def argKeys:List V→List Nat
 |[]=>[]
 | .ref k _::r=>k::argKeys r
 |_::r=>argKeys r
def allKeys:List (Nat×B)→List Nat
 |[]=>[]
 |(k,_)::r=>k::allKeys r
def opKeys(E:Env)(s:St)(g:List (Nat×Bool)):Op→List Nat
 | .store _ a _=>addrKey (ev s g a)
 | .mapUpdate _ m _ _=>mapKey (ev s g m)
 | .insert _ m _ _=>mapKey (ev s g m)
 | .call {callee:=.builtin .append,args:=args,..}=>(match evs s g args.toList with|v::_=>ownKey v|_=>[])
 | .call {callee:=.builtin .clear,args:=args,..}=>(match evs s g args.toList with|v::_=>ownKey v|_=>[])
 | .call {callee:=.builtin .copy,args:=args,..}=>(match evs s g args.toList with|v::_=>ownKey v|_=>[])
 | .call {callee:=.value f,args:=args,..}=>(match ev s g f with | .fn f caps=>(match mem E.bw f with|true=>[]|false=>(match mem E.inl f with|true=>allKeys s.hp|false=>argKeys (app (evs s g args.toList) caps)))|_=>[])
 |_=>[]
def useKeys(E:Env)(s:St)(g:List (Nat×Bool))(op:Op):List Nat:=
 match op with
 | .load _ a=>addrKey (ev s g a)
 | .convert _ _ x=>ownKey (ev s g x)
 |op=>opKeys E s g op
def aStep(E:Env)(C:CallT)(I:Nat→List V→List V→St→(V→St→Prop)→Prop)(ops:List Oper)(o:Oper)(s:St)(next:List Nat→St→Prop):Prop:=
 match o.guard with
 |none=>aOp E C I s [] o fun v s'=>next (useKeys E s [] o.op) (putO s' o.dst v)
 |some (j,want)=>
  match guardSlot ops j with
  |none=>False
  |some t=>
   let yes:=fun(s:St)=>aOp E C I s [(t,want)] o fun v s'=>next (useKeys E s [(t,want)] o.op) (putO s' o.dst v)
   let no:=fun(s:St)=>next [] (putO s o.dst .dead)
   match lk s.kn t with
   |some b=>(match b,want with
    |true,true=>yes s
    |false,false=>yes s
    |_,_=>(match E.con with|true=>next [] (putGO s o.dst (t,want) (vbool false))|false=>no s))
   |none=>
    match E.con with
    |true=>splitG 12 s t want yes (fun s=>next [] (putGO s o.dst (t,want) (vbool false)))
    |false=>
    match specOp o.op with
    |true=>
     (match o.op with
      | .pick c a b=>
        (match ev s [(t,want)] c,evPick s (t,want) c true a,evPick s (t,want) c false b with
         | .d (.v (.bool x)),.d (.v (.bool y)),.d (.v (.bool z))=>next [] (putGO s o.dst (t,want) (vbool (cond x y z)))
         |_,_,_=>splitG 4 s t want yes no)
      |op=>aVal E s [(t,want)] op fun v=>next (useKeys E s [(t,want)] op) (putGO s o.dst (t,want) v))
    |false=>
     match o.op with
     | .call {callee:=.value (.func f),args:=args,..}=>
       (match mem E.bw f with
        |true=>aCallB C s f (evs s [(t,want)] args.toList) fun v=>next [] (putGO s o.dst (t,want) v)
        |false=>
        match pureVs (evs s [(t,want)] args.toList)with
        |true=>aCallPure C s f (evs s [(t,want)] args.toList) fun v=>next [] (putGO s o.dst (t,want) v)
        |false=>splitG 4 s t want yes no)
     |_=>splitG 4 s t want yes no
 where
 evPick (s:St) (g:Nat×Bool) (c:Operand) (w:Bool) (x:Operand):V:=
  match c with
  | .tmp t=>ev s [(t,w),g] x
  |_=>ev s [g] x
def aOps(E:Env)(C:CallT)(I:Nat→List V→List V→St→(V→St→Prop)→Prop)(ops:List Oper):List Oper→St→(St→Prop)→Prop
 |[],s,K=>K s
 |o::rest,s,K=>aStep E C I ops o s fun _ s=>aOps E C I ops rest s K
inductive Sched where
 |done
 |q (i:Nat) (k:Sched)
 |one (i:Nat) (drop:List Nat) (k:Sched)
 |alt (i:Nat) (drop:List Nat) (k rest:Sched)
 deriving Inhabited
def dropR(drop:List Nat):List (Nat×List Nat)→List (Nat×List Nat)
 |[]=>[]
 |(q,ks)::r=>match mem drop q with|true=>dropR drop r|false=>(q,ks)::dropR drop r
def disjL:List Nat→List Nat→Bool
 |[],_=>true
 |k::r,l=>match mem l k with|true=>false|false=>disjL r l
def disj(ks:List Nat):List (Nat×List Nat)→Bool
 |[]=>true
 |(_,l)::r=>match disjL ks l with|true=>disj ks r|false=>false
def aAny(E:Env)(C:CallT)(I:Nat→List V→List V→St→(V→St→Prop)→Prop)(ops:List Oper)(K:St→Prop):Sched→List (Nat×List Nat)→St→Prop
 | .done,_,s=>K s
 | .q i k,rs,s=>(match nth ops i with|none=>False|some o=>aStep E C I ops o s fun ks s=>aAny E C I ops K k ((i,ks)::rs) s)
 | .one i drop k,rs,s=>(match nth ops i with
   |none=>False
   |some o=>aStep E C I ops o s fun ks s=>match disj ks (dropR drop rs)with|true=>aAny E C I ops K k (dropR drop rs) s|false=>False)
 | .alt i drop k rest,rs,s=>(match nth ops i with
   |none=>False
   |some o=>aStep E C I ops o s fun ks s=>match disj ks (dropR drop rs)with|true=>aAny E C I ops K k (dropR drop rs) s|false=>False)∧aAny E C I ops K rest rs s
def dsts:List Oper→List Nat
 |[]=>[]
 |o::r=>match o.dst with|some d=>d::dsts r|none=>dsts r
def killL(keep:List Nat):List Nat→St→St
 |[],s=>s
 |d::r,s=>match mem keep d with|true=>killL keep r s|false=>killL keep r (s.kill d)
def endRegion(keep:List Nat)(ops:List Oper)(s:St):St:={killL keep (dsts ops) s with gd:=[]}
def killBut(live:List Nat):List (Nat×V)→List (Nat×V)
 |[]=>[]
 |(a,x)::r=>match mem live a with|true=>(a,x)::killBut live r|false=>killBut live r
def dropL:List Nat→St→St
 |[],s=>s
 |k::r,s=>dropL r (match Nat.ble 100000 k with|true=>s|false=>s.drop k)
def clean(live dk:List Nat)(s:St):St:=
 match dropL dk s with
 |s=>{s with tm:=killBut live s.tm,kn:=[],gd:=[]}
structure Cv where
 box:Option Nat
 ix:Nat
 key:Nat
 e:Nat
 sz:Nat
 deriving Inhabited
def setAt{α:Type}:Nat→α→List α→List α
 |_,_,[]=>[]
 |0,y,_::r=>y::r
 |n+1,y,x::r=>x::setAt n y r
def subV(k:Nat)(es:List (List D)):V→V
 | .own j=>(match Nat.beq j k with|true=>.d (.sl es)|false=>.own j)
 |v=>v
def subL(k:Nat)(es:List (List D)):List V→List V
 |[]=>[]
 |v::r=>subV k es v::subL k es r
def subT(k:Nat)(es:List (List D)):List (Nat×V)→List (Nat×V)
 |[]=>[]
 |(a,v)::r=>(a,subV k es v)::subT k es r
def subM(k:Nat)(es:List (List D)):List (Value×V)→List (Value×V)
 |[]=>[]
 |(a,v)::r=>(a,subV k es v)::subM k es r
def subH(k:Nat)(es:List (List D)):List (Nat×B)→List (Nat×B)
 |[]=>[]
 |(a,b)::r=>(a,match b with | .box cs=>.box (subL k es cs) | .mp l=>.mp (subM k es l)|b=>b)::subH k es r
def subR(k:Nat)(es:List (List D)):List (List (Nat×V))→List (List (Nat×V))
 |[]=>[]
 |l::r=>subT k es l::subR k es r
def St.deFro(s:St)(k:Nat)(es:List (List D)):St:=St.drop {tm:=subT k es s.tm,hp:=subH k es s.hp,kn:=s.kn,gd:=[],rt:=subR k es s.rt} k
def nilOwn:List Cv→St→St
 |[],s=>s
 |c::r,s=>
  nilOwn r (match Nat.ble 1 c.sz,lk s.hp c.key with
   |true,none=>
    (match c.box with
     |none=>(match lk s.tm c.ix with|some .nil=>{s with tm:=pt s.tm c.ix (.own c.key),hp:=pt s.hp c.key (.lst c.e c.sz [])}|_=>s)
     |some b=>
      (match lk s.hp b with
       |some (.box cs)=>(match nth cs c.ix with|some .nil=>{s with hp:=pt (pt s.hp c.key (.lst c.e c.sz [])) b (.box (setAt c.ix (.own c.key) cs))}|_=>s)
       |_=>s))
   |false,some (.fro _ es)=>(match Nat.ble 100000 c.key with|true=>s|false=>s.deFro c.key es)
   |false,some (.lst _ sz es)=>(match Nat.ble 100000 c.key with|true=>s|false=>(s.setB c.key (.fro sz es)).deFro c.key es)
   |_,_=>s)
def LoopVC(live dk:List Nat)(cv:List Cv)(body:St→(Ex→St→Prop)→Prop)(s:St)(K:Ex→St→Prop):Prop:=
 ∃J:Nat→St→Prop,(∃n,J n (nilOwn cv (clean live dk s)))∧∀n s',J n s'→body s' fun e s''=>match e with | .normal=>∃m,m<n∧J m (nilOwn cv (clean live dk s''))|e=>K e s''
def frzCaps(s:St):List V→Option (List Cp×St)
 |[]=>some ([],s)
 | .dptr cs::r=>(match frzCaps s r with|some (l,s)=>some (.ptr cs::l,s)|none=>none)
 | .ref k 0::r=>
   (match Nat.ble 100000 k,V.namesL k r,lk s.hp k with
    |false,false,some (.box cs)=>
     (match toDs s cs with
      |some (ds,s1)=>(match frzCaps (s1.drop k) r with|some (l,s)=>some (.ptr ds::l,s)|none=>none)
      |none=>none)
    |_,_,_=>none)
 |c::r=>(match toD s c with|some (x,s)=>(match frzCaps s r with|some (l,s)=>some (.d x::l,s)|none=>none)|none=>none)
def rnd(s:St)(p:Nat)(v:V):St:={tm:=pt s.tm p v,hp:=s.hp,kn:=[],gd:=[],rt:=s.tm::s.rt}
def bak(s:St):St:=match s.rt with|tm::rt=>{tm:=tm,hp:=s.hp,kn:=[],gd:=[],rt:=rt}|[]=>{tm:=[],hp:=s.hp,kn:=[],gd:=[]}
def ofX:R→Option V
 | .d x=>some (.d x)
 | .agg cs=>some (.agg (vd cs))
 |_=>none
def RangeVC(live dk:List Nat)(cv:List Cv)(xs:List R)(p:Nat)(assign body:St→(Ex→St→Prop)→Prop)(s:St)(K:Ex→St→Prop):Prop:=
 ∃J:Nat→St→Prop,J 0 (nilOwn cv (clean live dk s))∧
  (∀i x s',xs[i]? = some x→J i s'→match ofX x with
   |none=>False
   |some v=>assign (rnd s' p v) fun e s1=>match e with
    | .normal=>body s1 fun e s2=>match e with | .normal=>J (i+1) (nilOwn cv (clean live dk (bak s2)))|e=>K e (clean live dk (bak s2))
    |_=>False)∧
  ∀s',J xs.length s'→K .normal s'
def codeId:Code→Nat
 | .region id _ _=>id
 | .seq a _=>codeId a
 | .cond _ a _=>codeId a
 | .block _ b=>codeId b
 | .loop b=>codeId b
 |_=>0
def aCond(s:St)(c:Operand)(X Y:St→Prop):Prop:=
 match c with
 | .tmp t=>
   (match lk s.kn t with
    |some true=>X s
    |some false=>Y s
    |none=>
     match lk s.tm t with
     |some (.d (.v (.bool b)))=>(b=true→X (s.know t true))∧(b=false→Y (s.know t false))
     |_=>False)
 | .const (.bool true)=>X s
 | .const (.bool false)=>Y s
 |_=>False
structure LX where
 X:Type
 sh:X→St
 P:X→Nat→X→Prop
 Y:Type:=Unit
 el:Y→R:=fun _=>.d (.sl [])
def LoopX(l:LX)(live dk:List Nat)(cv:List Cv)(body:St→(Ex→St→Prop)→Prop)(s:St)(K:Ex→St→Prop):Prop:=
 ∃x0,(nilOwn cv (clean live dk s)=l.sh x0∧∃n,l.P x0 n x0)∧
  ∀n x,l.P x0 n x→body (l.sh x) fun e s''=>match e with | .normal=>∃m x',m<n∧nilOwn cv (clean live dk s'')=l.sh x'∧l.P x0 m x'|e=>K e s''
def RangeX(l:LX)(live dk:List Nat)(cv:List Cv)(xs:List R)(p:Nat)(assign body:St→(Ex→St→Prop)→Prop)(s:St)(K:Ex→St→Prop):Prop:=
 ∃x0,(nilOwn cv (clean live dk s)=l.sh x0∧l.P x0 0 x0)∧(∀(i:Nat) (y:R),xs[i]? = some y→∃z,y=l.el z)∧
  (∀(i:Nat) (z:l.Y) (x:l.X),xs[i]? = some (l.el z)→l.P x0 i x→match ofX (l.el z)with
    |none=>False
    |some v=>assign (rnd (l.sh x) p v) fun e s1=>match e with
     | .normal=>body s1 fun e s2=>match e with | .normal=>∃x',nilOwn cv (clean live dk (bak s2))=l.sh x'∧l.P x0 (i+1) x'|e=>K e (clean live dk (bak s2))
     |_=>False)∧
  ∀x,l.P x0 xs.length x→K .normal (l.sh x)
structure Fi where
 keep:List Nat
 sc:List (Nat×Sched):=[]
 lp:List (Nat×(List Nat×List Nat)):=[]
 cv:List (Nat×List Cv):=[]
 lx:List (Nat×LX):=[]
def awp(E:Env)(C:CallT)(I:Nat→List V→List V→St→(V→St→Prop)→Prop)(fi:Fi):Code→St→(Ex→St→Prop)→Prop
 | .skip,s,K=>K .normal s
 | .region _ ops false,s,K=>aOps E C I ops.toList ops.toList s fun s=>K .normal (endRegion fi.keep ops.toList s)
 | .region id ops true,s,K=>(match lk fi.sc id with|none=>False|some sch=>aAny E C I ops.toList (fun s=>K .normal (endRegion fi.keep ops.toList s)) sch [] s)
 | .seq a b,s,K=>awp E C I fi a s fun e s=>match e with | .normal=>awp E C I fi b s K|e=>K e s
 | .cond c a b,s,K=>aCond s c (fun s=>awp E C I fi a s K) (fun s=>awp E C I fi b s K)
 | .block id b,s,K=>awp E C I fi b s fun e s=>match e with | .exit i=>(match Nat.beq i id with|true=>K .normal s|false=>K (.exit i) s)|e=>K e s
 | .loop b,s,K=>(match lk fi.lp (codeId b)with|none=>False|some (live,dk)=>(match lk fi.lx (codeId b)with
   |none=>LoopVC live dk (match lk fi.cv (codeId b)with|some cv=>cv|none=>[]) (fun s K=>awp E C I fi b s K) s K
   |some l=>LoopX l live dk (match lk fi.cv (codeId b)with|some cv=>cv|none=>[]) (fun s K=>awp E C I fi b s K) s K))
 | .exit id,s,K=>K (.exit id) s
 | .ret,s,K=>K .ret s
 | .rangeFunc g ps assign body,s,K=>
   (match ps.toList,lk fi.lp (codeId assign),ev s [] g with
    |[p],some (live,dk),.fn f caps=>
     (match frzCaps s caps with
      |none=>False
      |some (cps,s1)=>E.it f cps fun xs=>(match lk fi.lx (codeId assign)with
       |none=>RangeVC live dk (match lk fi.cv (codeId assign)with|some cv=>cv|none=>[]) xs p (fun s K=>awp E C I fi assign s K) (fun s K=>awp E C I fi body s K) s1 K
       |some l=>RangeX l live dk (match lk fi.cv (codeId assign)with|some cv=>cv|none=>[]) xs p (fun s K=>awp E C I fi assign s K) (fun s K=>awp E C I fi body s K) s1 K))
    |_,_,_=>False)
 |_,_,_=>False
def resV(E:Env)(s:St):List ResultVar→Option (List V)
 |[]=>some []
 | .tmp t::r=>match lk s.tm t,resV E s r with|some v,some l=>some (v::l)|_,_=>none
 | .cell a t::r=>
   match E.ti t,lk s.tm a with
   |some ti,some (.ref k off)=>
    (match lk s.hp k with
     |some (.box cs)=>
      (match cut off ti.ck.length cs with
       |some l=>(match ofCells ti.agg l,resV E s r with|some v,some l=>some (v::l)|_,_=>none)
       |none=>none)
     |_=>none)
   |_,_=>none
def argsSt:List R→Nat→Nat→St→St
 |[],_,_,s=>s
 | .d x::r,t,key,s=>argsSt r (t+1) key {s with tm:=pt s.tm t (.d x)}
 | .agg cs::r,t,key,s=>argsSt r (t+1) key {s with tm:=pt s.tm t (.agg (vd cs))}
 | .ptr cs::r,t,key,s=>argsSt r (t+1) key {s with tm:=pt s.tm t (.dptr cs)}
 | .fn f caps::r,t,key,s=>argsSt r (t+1) key {s with tm:=pt s.tm t (.fn f (cpV caps))}
 | .lst _ _ _::r,t,key,s=>argsSt r (t+1) key s
 | .box cs::r,t,key,s=>argsSt r (t+1) (key+1) {s with tm:=pt s.tm t (.ref key 0),hp:=pt s.hp key (.box (vd cs))}
def boxKeys:List R→Nat→List Nat
 |[],_=>[]
 | .box _::r,key=>key::boxKeys r (key+1)
 |_::r,key=>boxKeys r key
def finals(s:St):List Nat→Option (List (List D)×St)
 |[]=>some ([],s)
 |k::r=>
  match lk s.hp k with
  |some (.box cs)=>(match toDs s cs with
   |some (xs,s)=>(match finals s r with|some (l,s)=>some (xs::l,s)|none=>none)
   |none=>none)
  |_=>none
def finK(E:Env)(res:List ResultVar)(bk:List Nat)(Q:KT):Ex→St→Prop
 | .exit _,_=>False
 |_,s=>
  match resV E s res with
  |none=>False
  |some vs=>
   match toRs s vs with
   |none=>False
   |some (rs,ks,s)=>match nodupB (app ks bk),finals s bk with|true,some (fin,_)=>Q rs fin|_,_=>False
def vc(E:Env)(C:CallT)(I:Nat→List V→List V→St→(V→St→Prop)→Prop)(fi:Fi)(body:Code)(res:List ResultVar)(args:List R)(Q:KT):Prop:=
 awp E C I fi body (argsSt args 0 100000 {tm:=[],hp:=[],kn:=[],gd:=[]}) (finK E res (boxKeys args 100000) Q)
def toRO(s:St):V→Option (R×Option Nat×St)
 | .own k=>
   match lk s.hp k with
   |some (.lst e sz es)=>some (.lst e sz es,some k,s)
   |some (.fro _ es)=>some (.d (.sl es),none,s)
   |_=>none
 |v=>toR s v
def toRsO(s:St):List V→Option (List R×List Nat×St)
 |[]=>some ([],[],s)
 |v::r=>
  match toRO s v with
  |none=>none
  |some (x,k,s)=>
   match toRsO s r with
   |none=>none
   |some (xs,ks,s)=>some (x::xs,(match k with|some k=>k::ks|none=>ks),s)
def actAll(hp:List (Nat×B)):List Nat→Bool
 |[]=>true
 |k::r=>match lk hp k with
  |some (.box _)=>actAll hp r
  |some (.lst _ _ _)=>actAll hp r
  |_=>false
def finKO(E:Env)(res:List ResultVar)(bk:List Nat)(Q:KT):Ex→St→Prop
 | .exit _,_=>False
 |_,s=>
  match resV E s res with
  |none=>False
  |some vs=>
   match toRsO s vs with
   |none=>False
   |some (rs,ks,s)=>match nodupB (app ks bk),finals s bk with|true,some (fin,s')=>(match actAll s'.hp ks with|true=>Q rs fin|false=>False)|_,_=>False
def vcO(E:Env)(C:CallT)(I:Nat→List V→List V→St→(V→St→Prop)→Prop)(fi:Fi)(body:Code)(res:List ResultVar)(args:List R)(Q:KT):Prop:=
 awp E C I fi body (argsSt args 0 100000 {tm:=[],hp:=[],kn:=[],gd:=[]}) (finKO E res (boxKeys args 100000) Q)
def noI:Nat→List V→List V→St→(V→St→Prop)→Prop:=fun _ _ _ _ _=>False
end Go.Dm
