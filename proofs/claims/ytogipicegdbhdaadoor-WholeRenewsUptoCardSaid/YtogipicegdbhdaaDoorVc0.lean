/- The abstract values, blocks and the abstract execution of the code of a function, as propositions that are unfolded by reduction. -/
import Derived.Calls
import Derived.Below
set_option linter.unusedVariables false
set_option linter.unusedSimpArgs false
namespace Go.Proofs.YtogipicegdbhdaaDoor.Vc
section
inductive Ty
 |u8|int (k:IntKind)|bool|str|sl (t:Ty)|nil|cons (t ts:Ty)|arr (n:Nat) (t:Ty)|fnT|mapT (t:Ty)
 deriving DecidableEq

@[reducible] def Ty.D:Ty→Type
 |.u8=>UInt8| .int _=>Int| .bool=>Bool| .str=>List UInt8
 |.sl t=>List t.D| .nil=>Unit| .cons t ts=>t.D×ts.D| .arr _ t=>List t.D| .fnT=>Unit| .mapT _=>Unit

def Ty.dflt:(t:Ty)→t.D
 |.u8=>(0:UInt8)| .int _=>(0:Int)| .bool=>false| .str=> []| .sl _=> []| .nil=>()| .cons t ts=>(t.dflt,ts.dflt)| .arr n t=>List.replicate n t.dflt| .fnT=>()| .mapT _=>()

def Ty.size:Ty→Nat
 |.nil=>0| .cons t ts=>t.size+ts.size| .arr n t=>n*t.size|_=>1

inductive V
 |undef
 |nope
 |int (k:IntKind) (n:Int)
 |u8 (x:UInt8)
 |b (p:Prop)
 |bt (x:Bool)
 |str (s:List UInt8)
 |nils
 |sl (fr:Bool) (t:Ty) (xs:List t.D)
 |own (t:Ty) (id:Nat)
 |slc (t:Ty) (id off len:Nat)
 |rp (fr:Bool) (t:Ty) (x:t.D) (o:Nat)
 |ptr (id z i o:Nat)
 |agg (cs:List V)
 |tup (vs:List V)
 |fn (f:Nat) (caps:List V)
 |nilfn
 |yld (k:Option Nat)
 |dat (fr:Bool) (t:Ty) (x:t.D)
 |rb (x:V)
 |mp (t:Ty) (id:Nat)

inductive Blk
 |dead
 |row (fr:Bool) (t:Ty) (xs:List t.D)
 |cells (cs:List V)
 |imap (fr:Bool) (t:Ty) (es:List (Int×t.D))
 |mit (mid:Option Nat) (n:Nat) (seen:List Nat) (last:Option Nat)

abbrev bI:=List V→List Blk→(V→List Blk→Prop)→Prop

inductive PK
 |v (t:Ty)|ref (t:Ty)
 |fn (alts:List (Nat×List PK))
 |rf (alts:List (Nat×List PK))

abbrev gU:=List PK×(List V→Option (Prop×Nat×(Nat→List V)))

structure Env where
 con:List (Nat×bI)
 ty:List (Nat×Ty)
 glob:List (Nat×V)
 seq:List (Nat×gU):= []
 yl:Option (List PK×Nat×(Nat→List V)):=none
 rf:Bool:=false
 frz:List Nat:= []

def lk {α:Type}:List (Nat×α)→Nat→Option α
 |[],_=>none
 |(k,x)::l,n=>bif Nat.beq k n then some x else lk l n


def aL:List V→Nat→V
 |[],_=> .undef|x::_,0=>x|_::l,n+1=>aL l n
def aD:List Blk→Nat→Blk
 |[],_=> .dead|x::_,0=>x|_::l,n+1=>aD l n
def bg:List V→Nat→V→List V
 |[],_,_=> []|_::l,0,y=>y::l|x::l,n+1,y=>x::bg l n y
def aH:List Blk→Nat→Blk→List Blk
 |[],_,_=> []|_::l,0,y=>y::l|x::l,n+1,y=>x::aH l n y

def forceL {α:Type}:List α→(List α→Prop)→Prop
 |[],K=>K []
 |x::l,K=>forceL l fun l'=>K (x::l')

def forceV:V→(V→Prop)→Prop
 |.undef,K=>K .undef| .nope,K=>K .nope| .int k n,K=>K (.int k n)| .u8 x,K=>K (.u8 x)| .b p,K=>K (.b p)| .bt true,K=>K (.bt true)| .bt false,K=>K (.bt false)| .str s,K=>K (.str s)| .nils,K=>K .nils
 |.sl fr t xs,K=>K (.sl fr t xs)| .own t i,K=>K (.own t i)| .slc t i o l,K=>K (.slc t i o l)| .rp fr t x o,K=>K (.rp fr t x o)
 |.ptr i z j o,K=>K (.ptr i z j o)| .agg cs,K=>K (.agg cs)| .tup vs,K=>K (.tup vs)| .fn f c,K=>K (.fn f c)| .nilfn,K=>K .nilfn
 |.yld k,K=>K (.yld k)| .dat fr t x,K=>K (.dat fr t x)| .rb x,K=>K (.rb x)| .mp t i,K=>K (.mp t i)

def Te:IntKind→Nat
 |.i8=>127| .i16=>32767| .i32=>2147483647| .i64=>9223372036854775807| .u8=>255| .u16=>65535| .u32=>4294967295| .u64=>18446744073709551615
def Td:IntKind→Nat
 |.i8=>128| .i16=>32768| .i32=>2147483648| .i64=>9223372036854775808|_=>0
def Qf (k:IntKind):Int→Bool
 |.ofNat m=>Nat.ble m (Te k)
 |.negSucc m=>Nat.blt m (Td k)

def V6 (v:Value):V:=
 match v with
 |.int .u8 n=>bif Qf .u8 n then .u8 (UInt8.ofNat n.toNat) else .undef
 |.int k n=>bif Qf k n then .int k n else .undef
 |.bool b=> .b (b=true)
 |.string s=>bif Nat.ble s.data.toList.length 1000000 then .str s.data.toList else .undef
 |.slice none 0 0=> .nils
 |.nilFunc=> .nilfn
 |_=> .undef

def cv (v:Value):V:=match v with
 |.agg cs=> .agg (cs.toList.map V6)
 |v=>V6 v

def V.nb:V→V
 |.bt x=> .b (x=true)
 |.undef=> .undef| .nope=> .nope| .int k n=> .int k n| .u8 x=> .u8 x| .b p=> .b p| .str s=> .str s| .nils=> .nils| .sl fr t xs=> .sl fr t xs| .own t i=> .own t i
 |.slc t i o l=> .slc t i o l| .rp fr t x o=> .rp fr t x o| .ptr i z j o=> .ptr i z j o| .agg cs=> .agg cs| .tup vs=> .tup vs| .fn f c=> .fn f c| .nilfn=> .nilfn| .yld k=> .yld k| .dat fr t x=> .dat fr t x| .rb x=> .rb x| .mp t i=> .mp t i

def ev (E:Env) (σ:List V):Operand→V
 |.tmp t=>(aL σ t).nb
 |.const v=>cv v
 |.global g=>(lk E.glob g).getD .undef
 |.func f=> .fn f []

def lr (E:Env) (σ:List V):Operand→V
 |.tmp t=>aL σ t
 |.const (.bool x)=> .bt x
 |.const v=>cv v
 |.global g=>(lk E.glob g).getD .undef
 |.func f=> .fn f []

def inRK (k:IntKind) (n:Int) (K:Prop):Prop:=
 match k with
 |.i64=>(-9223372036854775808≤n∧n≤9223372036854775807)∧K
 |.u64=>(0≤n∧n≤18446744073709551615)∧K
 |.u16=>(0≤n∧n≤65535)∧K
 |.i32=>(-2147483648≤n∧n≤2147483647)∧K
 |.u32=>(0≤n∧n≤4294967295)∧K
 |_=>False

def shRK (k:IntKind) (b:Int) (K:Prop):Prop:=
 match k with
 |.i64| .u64=>(0≤b∧b≤64)∧K
 |.u16=>(0≤b∧b≤16)∧K
 |.i32| .u32=>(0≤b∧b≤32)∧K
 |_=>False

def iOr (k:IntKind) (a b:Int):Int:=k.wrap (((BitVec.ofInt k.bits a|||BitVec.ofInt k.bits b).toNat:Nat):Int)
def abinI (op:BinOp) (k:IntKind) (a b:Int) (K:V→Prop):Prop:=
 match op with
 |.add=>inRK k (a+b) (K (.int k (a+b)))
 |.sub=>inRK k (a-b) (K (.int k (a-b)))
 |.mul=>inRK k (a*b) (K (.int k (a*b)))
 |.quo=>((0≤a∧0<b)∧K (.int k (a/b)))∨((a<0∧0<b)∧K (.int k (-((-a)/b))))∨(0<b∧K (.int k (a.tdiv b)))
 |.rem=>((0≤a∧0<b)∧K (.int k (a%b)))∨((a<0∧0<b)∧K (.int k (-((-a)%b))))∨(0<b∧K (.int k (a.tmod b)))
 |.and=>((0≤a∧0≤b)∧K (.int k ((a.toNat&&&b.toNat:Nat):Int)))∨(b=1∧K (.int k (a%2)))
 |.or=>((0≤a∧0≤b)∧K (.int k ((a.toNat|||b.toNat:Nat):Int)))∨K (.int k (iOr k a b))
 |.xor=>(0≤a∧0≤b)∧K (.int k ((a.toNat^^^b.toNat:Nat):Int))
 |.andNot=>(0≤a∧0≤b)∧K (.int k ((a.toNat^^^(a.toNat&&&b.toNat):Nat):Int))
 |.lss=>K (.b (a<b))
 |.leq=>K (.b (a≤b))
 |.gtr=>K (.b (b<a))
 |.geq=>K (.b (b≤a))
 |.eql=>K (.b (a=b))
 |.neq=>K (.b (a≠b))
 |_=>False

def abinB (op:BinOp) (a b:UInt8) (K:V→Prop):Prop:=
 match op with
 |.eql=>K (.b (a=b))
 |.neq=>K (.b (a≠b))
 |.lss=>K (.b (a.toNat<b.toNat))
 |.leq=>K (.b (a.toNat≤b.toNat))
 |.gtr=>K (.b (b.toNat<a.toNat))
 |.geq=>K (.b (b.toNat≤a.toNat))
 |.xor=>K (.u8 (a^^^b))
 |.and=>K (.u8 (a&&&b))
 |.or=>K (.u8 (a|||b))
 |.add=>K (.u8 (a+b))
 |.sub=>K (.u8 (a-b))
 |.quo=>(0<b.toNat)∧K (.u8 (a/b))
 |.rem=>(0<b.toNat)∧K (.u8 (a%b))
 |_=>False

def abinS (op:BinOp) (a b:List UInt8) (K:V→Prop):Prop:=
 match op with
 |.eql=>K (.b (a=b))
 |.neq=>K (.b (a≠b))
 |.add=>(a.length+b.length≤1099511627776)∧K (.str (a++b))
 |_=>False

def abin (op:BinOp) (H:List Blk) (x y:V) (K:V→Prop):Prop:=
 match x,y with
 |.int k a,.int k' b=>match op with
  |.shl=>shRK k b (inRK k (a*2^b.toNat) (K (.int k (a*2^b.toNat))))
  |.shr=>shRK k b (K (.int k (a/2^b.toNat)))
  |op=>bif decide (k=k') then abinI op k a b K else False
 |.u8 a,.u8 b=>abinB op a b K
 |.u8 a,.int _ b=>match op with
  |.shr=>(0≤b∧b≤8)∧K (.u8 (UInt8.ofNat (a.toNat/2^b.toNat)))
  |_=>False
 |.str a,.str b=>abinS op a b K
 |.b p,.b q=>match op with
  |.eql=>K (.b (p↔q))
  |.neq=>K (.b (¬(p↔q)))
  |_=>False
 |.nils,.nils=>match op with
  |.eql=>K (.b True)
  |.neq=>K (.b False)
  |_=>False
 |.sl _ _ xs,.nils=>match op with
  |.eql=>∀p:Prop,(p→xs= [])→K (.b p)
  |.neq=>∀p:Prop,(p→xs= [])→K (.b (¬p))
  |_=>False
 |.own _ id,.nils=>match aD H id,op with
  |.row _ _ xs,.eql=>∀p:Prop,(p→xs= [])→K (.b p)
  |.row _ _ xs,.neq=>∀p:Prop,(p→xs= [])→K (.b (¬p))
  |_,_=>False
 |.fn _ _,.nilfn=>match op with
  |.eql=>K (.b False)
  |.neq=>K (.b True)
  |_=>False
 |_,_=>False

def eq1 (t:Ty) (x y:V) (K:Prop→Prop):Prop:=
 match t,x,y with
 |.int _,.int k a,.int k' b=>bif decide (k=k') then K (a=b) else False
 |.u8,.u8 a,.u8 b=>K (a=b)
 |.str,.str a,.str b=>K (a=b)
 |.bool,.b p,.b q=>K (p↔q)
 |_,_,_=>False
def eqS:Ty→List V→List V→(Prop→Prop)→Prop
 |.nil, [], [],K=>K True
 |.cons t ts,x::xs,y::ys,K=>eq1 t x y fun p=>eqS ts xs ys fun q=>K (p∧q)
 |_,_,_,_=>False
def aeqA (E:Env) (T:TypeId) (op:BinOp) (x y:V) (K:V→Prop):Prop:=
 match lk E.ty T,x,y with
 |some (.cons t ts),.agg cs,.agg ds=>(match op with
  |.eql=>eqS (.cons t ts) cs ds fun p=>K (.b p)
  |.neq=>eqS (.cons t ts) cs ds fun p=>K (.b (¬p))
  |_=>False)
 |some (.arr n (.int k)),.dat _ (.arr n1 (.int k1)) xs,.dat _ (.arr n2 (.int k2)) ys=>bif Nat.beq n1 n&&Nat.beq n2 n&&decide (k1=k)&&decide (k2=k) then(match op with
  |.eql=>K (.b ((xs:List Int)=ys))
  |.neq=>K (.b (¬((xs:List Int)=ys)))
  |_=>False) else False
 |_,_,_=>False

def abinT (E:Env) (T:TypeId) (op:BinOp) (H:List Blk) (x y:V) (K:V→Prop):Prop:=
 match x with
 |.b _=>match lk E.ty T with|some .bool=>abin op H x y K|_=>False
 |.nils| .sl _ _ _| .own _ _=>match lk E.ty T with|some (.sl _)=>abin op H x y K|_=>False
 |.fn _ _=>False
 |.agg _| .dat _ _ _=>aeqA E T op x y K
 |_=>abin op H x y K

def alen (H:List Blk) (v:V) (K:V→Prop):Prop:=
 match v with
 |.nils=>K (.int .i64 0)
 |.sl _ _ xs=>K (.int .i64 xs.length)
 |.str s=>K (.int .i64 s.length)
 |.own _ id=>match aD H id with| .row _ _ xs=>K (.int .i64 xs.length)| .cells cs=>K (.int .i64 cs.length)|_=>False
 |.slc _ _ _ n=>K (.int .i64 n)
 |_=>False

def alenT (E:Env) (H:List Blk) (T:TypeId) (v:V) (K:V→Prop):Prop:=
 match lk E.ty T with
 |some (.sl _)=>(match v with| .str _=>False|v=>alen H v K)
 |some .str=>(match v with| .str s=>K (.int .i64 s.length)|_=>False)
 |some (.mapT _)=>(match v with| .mp _ id=>(match aD H id with| .imap _ _ es=>K (.int .i64 es.length)|_=>False)|_=>False)
 |_=>False

def cj (fr:Bool):(t:Ty)→t.D→Nat→V
 |.u8,x,0=> .u8 x
 |.int k,n,0=> .int k n
 |.bool,b,0=> .b (b=true)
 |.str,s,0=> .str s
 |.sl t,xs,0=> .sl fr t xs
 |.fnT,_,0=> .nilfn
 |.cons t ts,x,o=>bif Nat.blt o t.size then cj fr t x.1 o else cj fr ts x.2 (o-t.size)
 |.arr _ t,xs,o=>bif Nat.beq t.size 1 then cj fr t (xs.getD o t.dflt) 0 else cj fr t (xs.getD (o/t.size) t.dflt) (o%t.size)
 |_,_,_=> .undef

def ei (fr:Bool) (t:Ty) (x:t.D) (o:Nat):Nat→List V
 |0=> []
 |n+1=>cj fr t x o::ei fr t x (o+1) n

def asIdx (v:V) (K:Int→Prop):Prop:=
 match v with
 |.int _ i=>K i
 |.u8 x=>K (x.toNat:Int)
 |_=>False

def br:List Nat→Nat→Bool
 |[],_=>false
 |x::l,n=>Nat.beq x n||br l n
def lQ (z:List Nat):Bool:=match z with
 |[]=>false
 |n::l=>(Nat.ble 6100000 n&&Nat.blt n 6200000)||lQ l
def x9 (z:List Nat):List (Nat×bI)→List (Nat×bI)
 |[]=> []
 |p::l=>bif br z (6100000+p.1) then x9 z l else p::x9 z l
def Env.dr (E:Env):Env:={E with con:=bif lQ E.frz then x9 E.frz E.con else E.con}
def uz:Nat→Nat→(Nat→Prop)→Prop
 |0,_,_=>True
 |n+1,k,P=>P k∧uz n (k+1) P
def Hq (b:Bool) (n:Nat) (i:Int) (P:Nat→Prop):Prop:=bif b then uz n 0 fun j=>i=(j:Int)→P j else P i.toNat
def aindexAddr (E:Env) (H:List Blk) (T:TypeId) (v ix:V) (K:V→Prop):Prop:=
 match lk E.ty T with
 | some (.sl te)=>(match v with
  |.sl fr t xs=>bif Nat.beq t.size te.size then asIdx ix fun i=>(0≤i∧i<xs.length)∧K (.rp fr t (xs.getD i.toNat t.dflt) 0) else False
  |.own t id=>(match aD H id with
   |.row _ _ xs=>bif Nat.beq t.size te.size then asIdx ix fun i=>(0≤i∧i<xs.length)∧K (.ptr id t.size i.toNat 0) else False
   |.cells cs=>bif Nat.beq t.size te.size then asIdx ix fun i=>(0≤i∧i<cs.length)∧Hq (br E.frz 1000007) cs.length i (fun j=>K (.ptr id 1 j 0)) else False
   |_=>False)
  |.slc t id off n=>(match aD H id with
   |.row _ _ _=>bif Nat.beq t.size te.size then asIdx ix fun i=>(0≤i∧i<n)∧K (.ptr id t.size (off+i.toNat) 0) else False
   |_=>False)
  |_=>False)
 | some (.arr n te)=>(match v with
  |.ptr id z j o=>(match aD H id with
   |.row _ t xs=>bif decide (t=te)&&Nat.beq j 0&&Nat.beq o 0&&Nat.beq z te.size then asIdx ix fun i=>(0≤i∧i<n∧xs.length=n)∧K (.ptr id z i.toNat 0) else bif decide (t= .arr n te)&&Nat.beq o 0 then asIdx ix fun i=>(0≤i∧i<n)∧K (.ptr id z j (i.toNat*te.size)) else False
   |_=>False)
  |.rp fr t x o=>(match t,x with
   |.arr n' t',xs=>bif Nat.beq n n'&&decide (t'=te)&&Nat.beq o 0 then asIdx ix fun i=>(0≤i∧i<n)∧K (.rp fr t' ((xs:List t'.D).getD i.toNat t'.dflt) 0) else False
   |_,_=>False)
  |_=>False)
 |_=>False

def aload (E:Env) (H:List Blk) (T:TypeId) (p:V) (K:V→Prop):Prop:=
 match lk E.ty T with
 | some (.arr n te)=>(match p with
  |.rp fr t' x o=>bif decide (t'= .arr n te)&&Nat.beq o 0 then K (.dat fr t' x) else False
  |.ptr id _ i o=>(match aD H id with
   |.row fr t' xs=>bif decide (t'= .arr n te)&&Nat.beq o 0 then K (.dat fr t' (xs.getD i t'.dflt)) else bif decide (t'=te)&&Nat.beq i 0&&Nat.beq o 0 then(xs.length=n)∧K (.dat fr (.arr n t') xs) else False
   |_=>False)
  |_=>False)
 |some .nil=>False
 | some (.cons t ts)=>(match p with
  |.rp fr t' x o=>bif Nat.ble (o+(Ty.cons t ts).size) t'.size then forceL (ei fr t' x o (Ty.cons t ts).size) fun cs=>K (.agg cs) else False
  |.ptr id _ i o=>(match aD H id with
   |.cells cs=>bif Nat.beq o 0&&Nat.ble (i+(Ty.cons t ts).size) cs.length then forceL ((cs.drop i).take (Ty.cons t ts).size) fun cs=>K (.agg cs) else False
   |.row fr t' xs=>bif Nat.ble (o+(Ty.cons t ts).size) t'.size then forceL (ei fr t' (xs.getD i t'.dflt) o (Ty.cons t ts).size) fun cs=>K (.agg cs) else False
   |_=>False)
  |_=>False)
 | some _=>(match p with
  |.rp fr t' x o=>bif Nat.blt o t'.size then forceV (cj fr t' x o) K else False
  |.ptr id _ i o=>(match aD H id with
   |.row fr t xs=>forceV (cj fr t (xs.getD i t.dflt) o) K
   |.cells cs=>bif Nat.beq o 0 then forceV (aL cs i) K else False
   |_=>False)
  |.rb x=>forceV x K
  |_=>False)
 |none=>False

def Ty.flat:Ty→Bool
 |.sl _=>false| .cons t ts=>t.flat&&ts.flat| .arr _ t=>t.flat|_=>true

def castK {t t':Ty} (xs:List t'.D) (K:List t.D→Prop):Prop:=
 match t,t',xs,K with
 |.u8,.u8,xs,K=>K xs
 |.str,.str,xs,K=>K xs
 |.bool,.bool,xs,K=>K xs
 |.sl .str,.sl .str,xs,K=>K xs
 |.int k,.int k',xs,K=>bif decide (k'=k) then K xs else False
 |.sl .u8,.sl .u8,xs,K=>K xs
 |.sl (.int k),.sl (.int k'),xs,K=>bif decide (k'=k) then K xs else False
 |t,t',xs,K=>if h:t'=t then K (h▸xs) else False

def asRow (H:List Blk) (t:Ty) (v:V) (K:Bool→List t.D→Prop):Prop:=
 match v with
 |.nils=>K true []
 |.sl fr _ xs=>castK xs fun xs=>K (fr||t.flat) xs
 |.own _ id=>match aD H id with
  |.row fr _ xs=>castK xs fun xs=>K (fr||t.flat) xs
  |_=>False
 |.slc _ id off n=>match aD H id with
  |.row fr _ xs=>castK xs fun xs=>K (fr||t.flat) ((xs.drop off).take n)
  |_=>False
 |_=>False

def asRows (H:List Blk) (t:Ty):List V→(List (List t.D)→Prop)→Prop
 |[],K=>K []
 |v::vs,K=>asRow H t v fun _ xs=>asRows H t vs fun xss=>K (xs::xss)

def asD (H:List Blk) (t:Ty) (v:V) (K:t.D→Prop):Prop:=
 match t,K with
 |.u8,K=>match v with| .u8 x=>K x|_=>False
 |.int k,K=>match v with| .int k' n=>k=k'∧K n|_=>False
 |.str,K=>match v with| .str s=>K s|_=>False
 |.bool,K=>match v with| .b p=>∃x:Bool,(x=true↔p)∧K x|_=>False
 | .sl (.sl t),K=>(match v with
  |.own _ id=>(match aD H id with
   |.cells cs=>asRows H t cs K
   |.row _ _ xs=>castK xs K
   |_=>False)
  |v=>asRow H (.sl t) v fun _ xs=>K xs)
 |.sl t,K=>asRow H t v fun _ xs=>K xs
 |_,_=>False

def dV:(t:Ty)→t.D→V
 |.u8,x=> .u8 x| .int k,n=> .int k n| .bool,b=> .b (b=true)| .str,s=> .str s| .sl t,xs=> .sl false t xs| .arr n t,xs=> .dat false (.arr n t) xs
 |.fnT,_=> .nilfn| .mapT _,_=> .undef
 |t,x=> .agg (ei false t x 0 t.size)

open Classical in
def setD (t:Ty) (v:V) (K:t.D→Prop):Prop:=
 match t,v,K with
 |.u8,.u8 y,K=>K y
 |.int k,.int k' n,K=>k=k'∧K n
 |.bool,.b p,K=>K (decide p)
 |.str,.str s,K=>K s
 |_,_,_=>False

def setF:(t:Ty)→t.D→Nat→V→(t.D→Prop)→Prop
 |.cons t ts,x,o,v,K=>bif Nat.blt o t.size then setF t x.1 o v fun y=>K (y,x.2) else setF ts x.2 (o-t.size) v fun y=>K (x.1,y)
 |.arr _ t,xs,o,v,K=>bif Nat.beq t.size 1 then setF t ((xs:List t.D).getD o t.dflt) 0 v fun y=>K ((xs:List t.D).set o y) else setF t ((xs:List t.D).getD (o/t.size) t.dflt) (o%t.size) v fun y=>K ((xs:List t.D).set (o/t.size) y)
 |.u8,_,o,v,K=>match o with|0=>setD .u8 v K|_=>False
 |.int k,_,o,v,K=>match o with|0=>setD (.int k) v K|_=>False
 |.bool,_,o,v,K=>match o with|0=>setD .bool v K|_=>False
 |.str,_,o,v,K=>match o with|0=>setD .str v K|_=>False
 |_,_,_,_,_=>False

def asArr (t:Ty) (v:V) (K:Nat→Bool→List t.D→Prop):Prop:=
 match v with
 |.dat fr (.arr n te) ys=>castK (t:=t) (t':=te) ys (K n fr)
 |_=>False

def asCellsN:(t:Ty)→List V→(Bool→t.D→List V→Prop)→Prop
 |.nil,l,K=>K true () l
 |.cons t ts,l,K=>asCellsN t l fun f x l=>asCellsN ts l fun g y l=>K (f&&g) (x,y) l
 |.arr _ _,_,_=>False
 |.fnT,_,_=>False
 |.mapT _,_,_=>False
 |.sl t,l,K=>match l with
  |.nils::l=>K true [] l
  |.sl fr _ xs::l=>castK (t:=t) xs fun xs=>K fr xs l
  |_=>False
 |.u8,l,K=>match l with|v::l=>asD [] .u8 v fun x=>K true x l|_=>False
 |.int k,l,K=>match l with|v::l=>asD [] (.int k) v fun x=>K true x l|_=>False
 |.bool,l,K=>match l with|v::l=>asD [] .bool v fun x=>K true x l|_=>False
 |.str,l,K=>match l with|v::l=>asD [] .str v fun x=>K true x l|_=>False

def asEl (t:Ty) (v:V) (K:Bool→t.D→Prop):Prop:=
 match t,K with
 |.cons t ts,K=>(match v with| .agg cs=>asCellsN (.cons t ts) cs fun f x l=>(match l with| []=>K f x|_=>False)|_=>False)
 |.sl t,K=>(match v with| .nils=>K true []| .sl fr _ xs=>castK (t:=t) xs fun xs=>K fr xs|_=>False)
 |.arr n te,K=>(match v with| .dat fr t' x=>(if h:t'= .arr n te then K fr (h▸x) else False)|_=>False)
 |t,K=>asD [] t v (K true)

def gW (cs:List V) (o:Nat):List V→List V
 |[]=>cs
 |v::vs=>gW (bg cs o v) (o+1) vs

def V.isCell:V→Bool
 |.agg _| .tup _| .undef| .nope| .dat _ _ _=>false
 |_=>true
def b7:List V→Bool
 |[]=>true
 |v::l=>v.isCell&&b7 l

def astore (E:Env) (H:List Blk) (T:TypeId) (p v:V) (K:List Blk→Prop):Prop:=
 match p,lk E.ty T with
 | .ptr id _ i o,some tT=>
  match aD H id with
  |.row fr t xs=>(match v with
   |.dat f t' ys=>asArr t (.dat f t' ys) fun n f ys=>(t.flat=true∧i=0∧o=0∧ys.length=xs.length∧tT.size=n*t.size)∧forceL (aH H id (.row fr t ys)) K
   |.agg cs=>asEl t (.agg cs) fun f x=>((fr=true→f=true)∧o=0∧tT.size=t.size)∧forceL (aH H id (.row fr t (xs.set i x))) K
   |.sl f t' ys=>asEl t (.sl f t' ys) fun f x=>((fr=true→f=true)∧o=0∧tT.size=t.size)∧forceL (aH H id (.row fr t (xs.set i x))) K
   |v=>setF t (xs.getD i t.dflt) o v fun x=>(o=o∧tT.size=1)∧forceL (aH H id (.row fr t (xs.set i x))) K)
  |.cells cs=>(match v with
   |.agg vs=>(b7 vs=true∧vs.length=tT.size∧o=0∧i+vs.length≤cs.length)∧forceL (gW cs i vs) fun cs'=>forceL (aH H id (.cells cs')) K
   |v=>(v.isCell=true∧tT.size=1∧o=0)∧forceL (bg cs i v) fun cs'=>forceL (aH H id (.cells cs')) K)
  |_=>False
 |_,_=>False

def K4 (E:Env) (H:List Blk) (T:TypeId) (x y:V) (K:V→List Blk→Prop):Prop:=
 match lk E.ty T,x with
 |some (.sl t),.own _ id=>(match aD H id with
  |.row fr t' xs=>(t'=t∧t.size=1)∧asRow H t y fun f ys=>(ys.length=xs.length∧0<ys.length)∧forceL (aH H id (.row (fr&&f) t ys)) (K (.int .i64 ys.length))
  |_=>False)
 |_,_=>False

mutual
def V.mentions (id:Nat):V→Bool
 |.own _ i=>Nat.beq i id
 |.slc _ i _ _=>Nat.beq i id
 |.ptr i _ _ _=>Nat.beq i id
 |.agg cs=>V.mentionsL id cs
 |.tup cs=>V.mentionsL id cs
 |.fn _ cs=>V.mentionsL id cs
 |.rb x=>V.mentions id x
 |.mp _ i=>Nat.beq i id
 |_=>false
def V.mentionsL (id:Nat):List V→Bool
 |[]=>false
 |x::l=>x.mentions id||V.mentionsL id l
end
def ak (id:Nat):List V→List V
 |[]=> []
 |v::l=>(bif v.mentions id then .undef else v)::ak id l
def ci (id:Nat):Blk→Blk
 |.cells cs=> .cells (ak id cs)
 |.mit (some mid) n s l=> .mit (bif Nat.beq mid id then none else some mid) n s l
 |b=>b
def bD (id:Nat):List Blk→List Blk
 |[]=> []
 |b::l=>ci id b::bD id l

def cK:Ty→List V
 |.u8=> [.u8 0]| .int k=> [.int k 0]| .bool=> [.b False]| .str=> [.str []]| .sl _=> [.nils]| .nil=> []| .cons t ts=>cK t++cK ts| .arr n t=>(List.replicate n (cK t)).flatten| .fnT=> [.nilfn]| .mapT _=> [.undef]

def aalloc (E:Env) (H:List Blk) (T:TypeId) (K:V→List Blk→Prop):Prop:=
 match lk E.ty T with
 |some (.arr n t)=>bif Nat.blt 0 n&&Nat.blt 0 t.size then forceL (H++ [.row true t (List.replicate n t.dflt)]) (K (.ptr H.length t.size 0 0)) else False
 |some t=>bif Nat.blt 0 t.size then forceL (cK t) fun cs=>forceL (H++ [.cells cs]) (K (.ptr H.length 1 0 0)) else False
 |none=>False

def abox (E:Env) (H:List Blk) (T:TypeId) (v:V) (K:V→List Blk→Prop):Prop:=
 match lk E.ty T with
 |some (.arr n t)=>bif Nat.blt 0 n&&Nat.blt 0 t.size then asArr t v fun m f xs=>(m=n∧xs.length=n)∧forceL (H++ [.row (t.flat||f) t xs]) (K (.ptr H.length t.size 0 0)) else False
 |some t=>(match v with
  |.agg cs=>bif Nat.blt 0 t.size&&b7 cs&&Nat.beq cs.length t.size then forceL (H++ [.cells cs]) (K (.ptr H.length 1 0 0)) else False
  |v=>bif v.isCell&&Nat.beq t.size 1 then forceL (H++ [.cells [v]]) (K (.ptr H.length 1 0 0)) else False)
 |none=>False

def evs (E:Env) (σ:List V):List Operand→(List V→Prop)→Prop
 |[],K=>K []
 |x::l,K=>forceV (ev E σ x) fun v=>evs E σ l fun vs=>K (v::vs)

def asEls (t:Ty):List V→(Bool→List t.D→Prop)→Prop
 |[],K=>K true []
 |v::l,K=>asEl t v fun f x=>asEls t l fun g xs=>K (f&&g) (x::xs)

def mr:List V→Bool
 |[]=>true
 |v::l=>(match v with| .sl _ _ _| .nils=>true|_=>false)&&mr l
def abuildSlice (E:Env) (H:List Blk) (T:TypeId) (vs:List V) (K:V→List Blk→Prop):Prop:=
 match lk E.ty T with
 |some (.sl (.sl t))=>bif br E.frz 1000002&&mr vs then(bif Nat.ble (vs.length*(Ty.sl t).size) 16777216 then asEls (.sl t) vs fun f xs=>forceL (H++ [.row ((Ty.sl t).flat||f) (.sl t) xs]) (K (.own (.sl t) H.length)) else False) else bif b7 vs then forceL (H++ [.cells vs]) (K (.own (.sl t) H.length)) else False
 |some (.sl t)=>bif Nat.ble (vs.length*t.size) 16777216 then asEls t vs fun f xs=>forceL (H++ [.row (t.flat||f) t xs]) (K (.own t H.length)) else False
 |_=>False

def aappend (E:Env) (σ:List V) (H:List Blk) (T:TypeId) (x y:V) (K:V→List V→List Blk→Prop):Prop:=
 match lk E.ty T,x with
 |some (.sl t),.nils=>asRow H t y fun f ys=>(ys.length≤1000000000)∧forceL (H++ [.row f t ys]) (K (.own t H.length) σ)
 |some (.sl t),.own t0 id=>
  match aD H id with
  |.row fr t' xs=>(t0=t∧t'=t)∧castK xs fun xs=>asRow H t y fun f ys=>(xs.length+ys.length≤1000000000)∧forceL (ak id σ) fun σ=>forceL (aH (bD id H) id (.row (fr&&f) t (xs++ys))) (K (.own t id) σ)
  |_=>False
 |_,_=>False

def dL (H:List Blk) (y:V):Bool:=match y with| .own _ id=>(match aD H id with| .cells _=>true|_=>false)|_=>false
def aappendC (E:Env) (σ:List V) (H:List Blk) (T:TypeId) (x y:V) (K:V→List V→List Blk→Prop):Prop:=
 match lk E.ty T,x,y with
 |some (.sl (.sl t)),.nils,.own t2 id2=>
  (match aD H id2 with
  |.cells ds=>(t2= .sl t∧Nat.blt 0 ds.length=true∧Nat.ble ds.length 1000000=true)∧forceL (H++ [.cells ds]) (K (.own (.sl t) H.length) σ)
  |_=>False)
 |some (.sl (.sl t)),.own t0 id,.own t2 id2=>
  (match aD H id,aD H id2 with
  | .cells cs,.cells ds=>(t0= .sl t∧t2= .sl t∧Nat.beq id id2=false∧Nat.blt 0 cs.length=true∧Nat.blt 0 ds.length=true∧Nat.ble (cs.length+ds.length) 1000000=true)∧
    forceL (ak id σ) fun σ=>forceL (ak id (cs++ds)) fun es=>forceL (aH (bD id H) id (.cells es)) (K (.own (.sl t) id) σ)
  |_,_=>False)
 |_,_,_=>False

def qS (n:Nat) (K:Nat→Prop):Prop:=
 match n with
 |0=>K 0
 |1=>K 1
 |2=>K 2
 |3=>K 3
 |4=>K 4
 |5=>K 5
 |6=>K 6
 |7=>K 7
 |8=>K 8
 |9=>K 9
 |10=>K 10
 |11=>K 11
 |12=>K 12
 |13=>K 13
 |14=>K 14
 |15=>K 15
 |16=>K 16
 |17=>K 17
 |18=>K 18
 |19=>K 19
 |20=>K 20
 |21=>K 21
 |22=>K 22
 |23=>K 23
 |24=>K 24
 |25=>K 25
 |26=>K 26
 |27=>K 27
 |28=>K 28
 |29=>K 29
 |30=>K 30
 |31=>K 31
 |32=>K 32
 |33=>K 33
 |34=>K 34
 |35=>K 35
 |36=>K 36
 |37=>K 37
 |38=>K 38
 |39=>K 39
 |40=>K 40
 |41=>K 41
 |42=>K 42
 |43=>K 43
 |44=>K 44
 |45=>K 45
 |46=>K 46
 |47=>K 47
 |48=>K 48
 |49=>K 49
 |50=>K 50
 |51=>K 51
 |52=>K 52
 |53=>K 53
 |54=>K 54
 |55=>K 55
 |56=>K 56
 |57=>K 57
 |58=>K 58
 |59=>K 59
 |60=>K 60
 |61=>K 61
 |62=>K 62
 |63=>K 63
 |n=>K n
def A1 (v:V) (K:V→Prop):Prop:=match v with
 |.own t i=>qS i fun i=>K (.own t i)
 |.slc t i o l=>qS i fun i=>K (.slc t i o l)
 |.ptr i z j o=>qS i fun i=>K (.ptr i z j o)
 |.mp t i=>qS i fun i=>K (.mp t i)
 |v=>forceV v K
def gk:List V→(List V→Prop)→Prop
 |[],K=>K []
 |x::l,K=>A1 x fun x=>gk l fun l=>K (x::l)
def Jh (b:Blk) (K:Blk→Prop):Prop:=
 match b with
 |.dead=>K .dead
 |.row fr t xs=>K (.row fr t xs)
 |.imap fr t xs=>K (.imap fr t xs)
 |.mit (some mid) n s l=>qS mid fun mid=>K (.mit (some mid) n s l)
 |.mit none n s l=>K (.mit none n s l)
 |.cells cs=>gk cs fun cs=>K (.cells cs)
def jB:List Blk→(List Blk→Prop)→Prop
 |[],K=>K []
 |b::l,K=>Jh b fun b=>jB l fun l=>K (b::l)
def aappendB (E:Env) (σ:List V) (H:List Blk) (T:TypeId) (x y:V) (K:V→List V→List Blk→Prop):Prop:=
 bif dL H y then aappendC E σ H T x y (fun v σ H=>gk σ fun σ=>jB H fun H=>K v σ H) else aappend E σ H T x y K

def aappendZ (E:Env) (σ:List V) (H:List Blk) (T:TypeId) (x y:V) (K:V→List V→List Blk→Prop):Prop:=
 match lk E.ty T,x,y with
 |some (.sl t),.own t0 id,.int _ n=>
  match aD H id with
  |.row fr t' xs=>(t0=t∧t'=t)∧castK xs fun xs=>(0<n∧xs.length+n.toNat≤1000000000)∧forceL (ak id σ) fun σ=>forceL (aH (bD id H) id (.row fr t (xs++List.replicate n.toNat t.dflt))) (K (.own t id) σ)
  |_=>False
 |_,_,_=>False
def qm (E:Env) (T:TypeId):Bool:=match lk E.ty T with|some (.int _)=>true|_=>false

def qR:Ty→Nat→List (Nat×Nat)
 |.cons t ts,o=>(o,t.size)::qR ts (o+t.size)
 |_,_=> []
def rC:List (Nat×Nat)→Nat→Option (Nat×Nat)
 |[],_=>none|x::_,0=>some x|_::l,n+1=>rC l n

def iW (v:V):List V:=match v with
 |.agg cs=>cs
 |v=> [v]

def V.isPart:V→Bool
 |.tup _| .undef| .nope| .dat _ _ _=>false
 |_=>true

def abuildF (t:Ty):List (Nat×V)→List V→(V→Prop)→Prop
 |[],cs,K=>K (.agg cs)
 |(i,v)::l,cs,K=>match rC (qR t 0) i with
  |some (o,z)=>bif v.isPart&&Nat.beq (iW v).length z&&Nat.ble (o+z) cs.length then forceL (gW cs o (iW v)) fun cs=>abuildF t l cs K else False
  |none=>False

def N6:List (Nat×V)→Nat→Nat→Bool
 |[],i,n=>Nat.beq i n
 |(k,_)::l,i,n=>Nat.beq k i&&N6 l (i+1) n
def abuild (E:Env) (T:TypeId) (parts:List (Nat×V)) (K:V→Prop):Prop:=
 match lk E.ty T with
 |some (.cons t ts)=>forceL (cK (.cons t ts)) fun cs=>abuildF (.cons t ts) parts cs K
 |some (.arr n t)=>bif N6 parts 0 n then asEls t (parts.map (·.2)) fun f xs=>K (.dat (t.flat||f) (.arr n t) xs) else False
 |_=>False

def qp:List (Nat×Operand)→Nat→Nat→Bool
 |[],i,n=>Nat.beq i n
 |(k,_)::l,i,n=>Nat.beq k i&&qp l (i+1) n

def afield (E:Env) (H:List Blk) (S:TypeId) (v:V) (f:Nat) (K:V→Prop):Prop:=
 match lk E.ty S with
 | some (.cons t ts)=>(match rC (qR (.cons t ts) 0) f with
  | some (o,z)=>bif Nat.blt 0 z then(match v with
   |.rp fr t' x o'=>K (.rp fr t' x (o'+o))
   |.ptr id zz i o'=>(match aD H id with
    |.cells cs=>bif Nat.beq zz 1&&Nat.beq o' 0&&Nat.blt (i+o) cs.length then K (.ptr id 1 (i+o) 0) else False
    |.row _ _ _=>bif Nat.blt (o'+o) zz then K (.ptr id zz i (o'+o)) else False
    |_=>False)
   |_=>False) else False
  |none=>False)
 |_=>False

def abounds (n:Nat) (lo hi:Option V) (K:Nat→Nat→Prop):Prop:=
 match lo,hi with
 |none,none=>K 0 n
 |none,some (.int _ h)=>(0≤h∧h≤n)∧K 0 h.toNat
 |some (.int _ l),none=>(0≤l∧l≤n)∧K l.toNat n
 |some (.int _ l),some (.int _ h)=>(0≤l∧l≤h∧h≤n)∧K l.toNat h.toNat
 |_,_=>False

def cut {α:Type} (xs:List α) (lo hi:Option V) (l h:Nat):List α:=
 match lo,hi with
 |none,none=>xs
 |none,some _=>xs.take h
 |some _,none=>xs.drop l
 |some _,some _=>(xs.drop l).take (h-l)

def Ue {α:Type} (xs:List α) (lo hi:Option V) (l h:Nat) (K:List α→Prop):Prop:=
 match lo,hi with
 |none,none=>K xs
 |none,some _=>K (xs.take h)
 |some _,none=>K (xs.drop l)
 |some _,some _=>K ((xs.drop l).take (h-l))
theorem pV {α:Type} (xs:List α) (lo hi:Option V) (l h:Nat) (K:List α→Prop):Ue xs lo hi l h K=K (cut xs lo hi l h):=by cases lo<;>cases hi<;>rfl

def aslice (E:Env) (H:List Blk) (T:TypeId) (v:V) (lo hi:Option V) (K:V→Prop):Prop:=
 match lk E.ty T with
 | some (.sl te)=>(match v with
  |.sl fr t xs=>bif Nat.beq t.size te.size then abounds xs.length lo hi fun l h=>Ue xs lo hi l h fun ys=>K (.sl fr t ys) else False
  |.own t id=>(match aD H id with
   |.row _ _ xs=>bif Nat.beq t.size te.size then abounds xs.length lo hi fun l h=>K (.slc t id l (h-l)) else False
   |_=>False)
  |.slc t id off n=>bif Nat.beq t.size te.size then abounds n lo hi fun l h=>K (.slc t id (off+l) (h-l)) else False
  |_=>False)
 |some .str=>(match v with
  |.str s=>abounds s.length lo hi fun l h=>Ue s lo hi l h fun ys=>K (.str ys)
  |_=>False)
 |_=>False

def aconv (E:Env) (S T:TypeId) (v:V) (K:V→Prop):Prop:=
 match lk E.ty S with
 |none=>False
 |some _=>(match lk E.ty T,v with
  |some (.int .i64),.u8 x=>K (.int .i64 x.toNat)
  |some (.int .u64),.u8 x=>K (.int .u64 x.toNat)
  |some (.int k),.int _ n=>inRK k n (K (.int k n))
  |some .u8,.int _ n=>K (.u8 (UInt8.ofNat (n%256).toNat))
  |some .u8,.u8 x=>K (.u8 x)
  |_,_=>False)

def V7 (mx:Bool) (x y:V) (K:V→Prop):Prop:=
 match x,y with
 |.int k a,.int k' b=>bif decide (k=k') then(match mx with|true=>K (.int k (max a b))|false=>K (.int k (min a b))) else False
 |_,_=>False

def cJ {α:Type}:List (Int×α)→Int→α→List (Int×α)
 |[],n,x=> [(n,x)]
 |(m,y)::l,n,x=>if m=n then(n,x)::l else(m,y)::cJ l n x
def aW {α:Type}:List (Int×α)→Int→Option α
 |[],_=>none
 |(m,y)::l,n=>if m=n then some y else aW l n
def elV (fr:Bool) (t:Ty) (x:t.D) (K:V→Prop):Prop:=
 match t with
 |.nil| .arr _ _| .mapT _=>False
 |.cons t ts=>forceL (ei fr (.cons t ts) x 0 (Ty.cons t ts).size) fun cs=>K (.agg cs)
 |t=>K (cj fr t x 0)
def xm (E:Env) (H:List Blk) (T:TypeId) (r:Option V) (K:V→List Blk→Prop):Prop:=
 match lk E.ty T,r with
 |some (.mapT t),none=>forceL (H++ [.imap (!(br E.frz 1000006||br E.frz 1000010)) t []]) (K (.mp t H.length))
 |_,_=>False
def amapUpdate (E:Env) (H:List Blk) (T:TypeId) (m k v:V) (K:List Blk→Prop):Prop:=
 match lk E.ty T,m,k with
 |some (.mapT t),.mp _ id,.int .i64 n=>(match aD H id with
  |.imap fr t' es=>asEl t' v fun f x=>(t'=t∧es.length≤1000000000)∧forceL (aH H id (.imap (fr&&f) t' (cJ es n x))) K
  |_=>False)
 |_,_,_=>False
def okK (ok:Bool) (v:V) (p:Prop) (K:V→Prop):Prop:=match ok with|true=>K (.tup [v,.b p])|false=>K v
def Ql (t:Ty) (ok:Bool) (x:Option t.D) (p:Prop) (K:V→Prop):Prop:=match t with
 |.sl _=>p∧(x=none→okK ok .nils False K)
 |_=>False
def alookup (E:Env) (H:List Blk) (T:TypeId) (m k:V) (ok:Bool) (K:V→Prop):Prop:=
 match lk E.ty T,m,k with
 | some (.mapT t),.mp _ id,.int .i64 n=>(match aD H id with
  |.imap fr t' es=>(t'=t)∧bif br E.frz 1000006 then Ql t' ok (aW es n) (∀x:t'.D,aW es n=some x→elV fr t' x fun v=>okK ok v True K) K
   else elV fr t' ((aW es n).getD t'.dflt) fun v=>okK ok v ((aW es n).isSome=true) K
  |_=>False)
 |_,_,_=>False

def Ko (E:Env) (H:List Blk) (T:TypeId) (v:V) (K:V→List Blk→Prop):Prop:=
 match lk E.ty T,v with
 |some (.mapT t),.mp _ id=>(match aD H id with| .imap _ t' es=>(t'=t)∧forceL (H++ [.mit (some id) es.length [] none]) (K (.ptr H.length 1 0 0))|_=>False)
 |_,_=>False
def Q4 (H:List Blk) (v:V) (K:V→List Blk→Prop):Prop:=
 match v with
 | .ptr id _ 0 0=>(match aD H id with
  |.mit (some mid) n s l=>(match aD H mid with
   |.imap fr t es=>(es.length=n)∧((∀i,i<n→i∈s++l.toList)→K (.tup [.bt false]) H)∧∀i,i<n→¬i∈s++l.toList→elV fr t (es.getD i (0,t.dflt)).2 fun v=>forceL (aH H id (.mit (some mid) n (s++l.toList) (some i))) (K (.tup [.bt true,.int .i64 (es.getD i (0,t.dflt)).1,v]))
   |_=>False)
  |_=>False)
 |_=>False
def K1 (H:List Blk) (v:V) (K:V→Prop):Prop:=
 match v with
 | .ptr id _ 0 0=>(match aD H id with
  |.mit (some mid) n _ (some i)=>(match aD H mid with
   |.imap fr t es=>(es.length=n)∧elV fr t (es.getD i (0,t.dflt)).2 fun v=>K (.tup [.int .i64 (es.getD i (0,t.dflt)).1,v])
   |_=>False)
  |_=>False)
 |_=>False
def bh:Ty→Bool
 |.nil| .cons _ _| .arr _ _=>true
 |_=>false

def eB:Ty→List Bool
 |.cons t ts=>bh t::eB ts
 |_=> []
def ua:Ty→Nat→Ty
 |.cons t _,0=>t
 |.cons _ ts,n+1=>ua ts n
 |_,_=> .nil
def pZ (E:Env) (S:TypeId) (v:V) (f:Nat) (K:V→Prop):Prop:=
 match lk E.ty S with
 | some (.cons t ts)=>(match rC (qR (.cons t ts) 0) f with
  |some (o,z)=>bif Nat.beq z 1&& !(bh (ua (.cons t ts) f)) then(match v with
   |.agg cs=>bif Nat.blt o cs.length then forceV (aL cs o) K else False
   |_=>False) else False
  |none=>False)
 |_=>False
def ql:Ty→Bool
 |.sl _=>true
 |_=>false
def aidxA (te:Ty) (n:Nat) (fr:Bool) (t':Ty) (x:t'.D) (j:Int) (K:V→Prop):Prop:=
 match te,t',x with
 |.arr m tb,.arr n' t1,xs=>bif Nat.beq n n'&&decide (t1= .arr m tb) then(0≤j∧j<n)∧K (.dat fr t1 ((xs:List t1.D).getD j.toNat t1.dflt)) else False
 |_,_,_=>False
def a7 (E:Env) (σ:List V) (H:List Blk) (o:Op) (K:V→List V→List Blk→Prop):Prop:=
 match o with
 |.move x| .assign x=>forceV (lr E σ x) fun v=>K v σ H
 |.pick c a b=>match lr E σ c with
  |.b p=>(p→forceV (lr E σ a) fun v=>K v σ H)∧(¬p→forceV (lr E σ b) fun v=>K v σ H)
  |.bt true=>forceV (lr E σ a) fun v=>K v σ H
  |.bt false=>forceV (lr E σ b) fun v=>K v σ H
  |_=>False
 |.alloc T=>aalloc E H T fun v H=>K v σ H
 |.box T x=>forceV (ev E σ x) fun v=>abox E H T v fun v H=>K v σ H
 |.buildSlice T n parts=>bif qp parts.toList 0 n&&Nat.ble n 1000 then evs E σ (parts.toList.map (·.2)) fun vs=>abuildSlice E H T vs fun v H=>K v σ H else False
 |.build T parts=>evs E σ (parts.toList.map (·.2)) fun vs=>abuild E T ((parts.toList.map (·.1)).zip vs) fun v=>K v σ H
 |.load T p=>aload E H T (ev E σ p) fun v=>K v σ H
 |.store T p x=>forceV (ev E σ x) fun v=>astore E H T (ev E σ p) v fun H=>K .undef σ H
 |.binOp op T x y _=>abinT E T op H (ev E σ x) (ev E σ y) fun v=>K v σ H
 |.unOp .not _ x=>match lr E σ x with| .b p=>K (.b (¬p)) σ H| .bt true=>K (.bt false) σ H| .bt false=>K (.bt true) σ H|_=>False
 |.convert S T x=>match lk E.ty S with
  |some (.sl .u8)=>(match lk E.ty T with|some .str=>asRow H .u8 (ev E σ x) fun _ xs=>K (.str xs) σ H|_=>False)
  |_=>aconv E S T (ev E σ x) fun v=>K v σ H
 |.makeFunc (.func f) fst caps=>match fst.toList with| []=>evs E σ caps.toList fun vs=>K (.fn f vs) σ H|_=>False
 |.makeSlice T l c=>match lk E.ty T,ev E σ l,ev E σ c with
  |some (.sl t),.int _ n,.int _ m=>bif br E.frz 1000000&&ql t then(n=m∧0≤n∧n≤1000)∧forceL (List.replicate n.toNat V.nils) fun cs=>forceL (H++ [.cells cs]) (K (.own t H.length) σ) else(n=m∧0≤n∧n≤1000000000)∧forceL (H++ [.row true t (List.replicate n.toNat t.dflt)]) (K (.own t H.length) σ)
  |_,_,_=>False
 |.indexAddr T x i=>aindexAddr E H T (ev E σ x) (ev E σ i) fun v=>K v σ H
 |.fieldAddr S x f=>afield E H S (ev E σ x) f fun v=>K v σ H
 |.slice T x lo hi none=>aslice E H T (ev E σ x) (lo.map (ev E σ)) (hi.map (ev E σ)) fun v=>K v σ H
 |.index T x i=>match lk E.ty T,ev E σ x,ev E σ i with
  |some .str,.str s,.int _ j=>(0≤j∧j<s.length)∧K (.u8 (s.getD j.toNat 0)) σ H
  |some (.arr n te),.dat fr t' x,.int _ j=>bif decide (t'= .arr n te)&&(Nat.beq te.size 1&& !bh te) then(0≤j∧j<n)∧forceV (cj fr t' x j.toNat) fun v=>K v σ H else aidxA te n fr t' x j fun v=>K v σ H
  |_,_,_=>False
 |.makeMap T r=>xm E H T (r.map (ev E σ)) fun v H=>K v σ H
 |.mapUpdate T m k x=>forceV (ev E σ x) fun v=>amapUpdate E H T (ev E σ m) (ev E σ k) v fun H=>K .undef σ H
 |.lookup T m k ok=>alookup E H T (ev E σ m) (ev E σ k) ok fun v=>K v σ H
 |.range T x=>Ko E H T (ev E σ x) fun v H=>K v σ H
 |.next x false=>Q4 H (ev E σ x) fun v H=>K v σ H
 |.entry x=>K1 H (ev E σ x) fun v=>K v σ H
 |.field S x f=>pZ E S (ev E σ x) f fun v=>K v σ H
 |.extract x i=>match ev E σ x with| .tup vs=>bif Nat.blt i vs.length then forceV (aL vs i) fun v=>K v σ H else False|_=>False
 |.call {callee:= .builtin .len,args,argTypes}=>match args.toList,argTypes.toList with| [x], [T]=>alenT E H T (ev E σ x) fun v=>K v σ H|_,_=>False
 |.call {callee:= .builtin .append,args,argTypes}=>match args.toList,argTypes.toList with| [x,y], [T,T']=>bif Nat.beq T T' then aappendB E σ H T (ev E σ x) (ev E σ y) K else bif qm E T' then aappendZ E σ H T (ev E σ x) (ev E σ y) K else False|_,_=>False
 |.call {callee:= .builtin .copy,args,argTypes}=>match args.toList,argTypes.toList with| [x,y], [T,T']=>bif Nat.beq T T' then K4 E H T (ev E σ x) (ev E σ y) fun v H=>K v σ H else False|_,_=>False
 |.call {callee:= .builtin .max,args,.. }=>match args.toList with| [x,y]=>V7 true (ev E σ x) (ev E σ y) fun v=>K v σ H|_=>False
 |.call {callee:= .builtin .min,args,.. }=>match args.toList with| [x,y]=>V7 false (ev E σ x) (ev E σ y) fun v=>K v σ H|_=>False
 | .call {callee:= .value f,args,.. }=>match ev E σ f with
  |.fn k caps=>match lk E.con k with
   |some c=>evs E σ args.toList fun vs=>c (vs++caps) H fun v H=>forceV v fun v=>forceL H fun H=>K v σ H
   |none=>False
  |_=>False
 |_=>False

def asCells (H:List Blk):(t:Ty)→List V→(t.D→List V→Prop)→Prop
 |.nil,l,K=>K () l
 |.cons t ts,l,K=>asCells H t l fun x l=>asCells H ts l fun y l=>K (x,y) l
 |.arr _ _,_,_=>False
 |t,v::l,K=>asD H t v fun x=>K x l
 |_, [],_=>False

def asArg1 (H:List Blk) (k:PK) (v:V) (K:V→Prop):Prop:=
 match k with
 |.fn _| .rf _=>False
 |.v (.cons t ts)=>(match v with| .agg cs=>asCells H (.cons t ts) cs fun x l=>(match l with| []=>K (dV (.cons t ts) x)|_=>False)|_=>False)
 |.v .bool=>(match v with| .b p=>K (.b p)|_=>False)
 |.v (.arr n t)=>(match v with| .dat _ t' x=>(if h:t'= .arr n t then K (.dat false (.arr n t) (h▸x)) else False)|_=>False)
 |.v t=>asD H t v fun x=>K (dV t x)
 | .ref t=>(match v with
  |.rp _ t' x o=>(if h:t'=t then(match o with|0=>K (.rp false t (h▸x) 0)|_=>False) else False)
  |.ptr id _ i o=>(match aD H id,i,o with
   |.cells cs,0,0=>asCells H t cs fun x l=>(match l with| []=>K (.rp false t x 0)|_=>False)
   |_,_,_=>False)
  |_=>False)

def asArgs1 (H:List Blk):List PK→List V→(List V→Prop)→Prop
 |[], [],K=>K []
 |k::ks,v::vs,K=>asArg1 H k v fun d=>asArgs1 H ks vs fun ds=>K (d::ds)
 |_,_,_=>False
def asArg (H:List Blk) (k:PK) (v:V) (K:V→Prop):Prop:=
 match k with
 |.fn alts=>(match v with| .fn g cs=>(match lk alts g with|some ks=>asArgs1 H ks cs fun ds=>K (.fn g ds)|none=>False)|_=>False)
 |.rf alts=>(match v with| .rb (.fn g cs)=>(match lk alts g with|some ks=>asArgs1 H ks cs fun ds=>K (.rb (.fn g ds))|none=>False)|_=>False)
 |.v t=>asArg1 H (.v t) v K
 |.ref t=>asArg1 H (.ref t) v K

def asArgs (H:List Blk):List PK→List V→(List V→Prop)→Prop
 |[], [],K=>K []
 |k::ks,v::vs,K=>asArg H k v fun d=>asArgs H ks vs fun ds=>K (d::ds)
 |_,_,_=>False

mutual
def yV (q:Option Nat):V→V
 |.own _ _=> .undef
 |.slc _ _ _ _=> .undef
 |.ptr _ _ _ _=> .undef
 |.mp _ _=> .undef
 |.rb x=> .rb (yV q x)
 |.sl _ t xs=> .sl false t xs
 |.rp _ t x o=> .rp false t x o
 |.dat _ t x=> .dat false t x
 |.agg cs=> .agg (yL q cs)
 |.tup cs=> .tup (yL q cs)
 |.fn f cs=> .fn f (yL q cs)
 |.yld _=> .yld q
 |v=>v
def yL (q:Option Nat):List V→List V
 |[]=> []
 |x::l=>yV q x::yL q l
end

def gn (ops:List Oper) (σ:List V) (g:Option (Nat×Bool)) (yes no:Prop):Prop:=
 match g with
 |none=>yes
 | some (j,w)=>match(ops[j]?).bind (·.dst) with
  | some t=>match aL σ t with
   |.b p=>match w with
    |true=>(p→yes)∧(¬p→no)
    |false=>(¬p→yes)∧(p→no)
   |.nope=>no
   |.bt true=>match w with|true=>yes|false=>no
   |.bt false=>match w with|true=>no|false=>yes
   |_=>False
  |none=>False

def mw (ops:List Oper) (σ:List V) (g:Option (Nat×Bool)) (yes no:List V→Prop):Prop:=
 match g with
 |none=>yes σ
 | some (j,w)=>match(ops[j]?).bind (·.dst) with
  | some t=>match aL σ t with
   |.b p=>match w with
    |true=>(p→forceL (bg σ t (.bt true)) yes)∧(¬p→forceL (bg σ t (.bt false)) no)
    |false=>(¬p→forceL (bg σ t (.bt false)) yes)∧(p→forceL (bg σ t (.bt true)) no)
   |.nope=>no σ
   |.bt true=>match w with|true=>yes σ|false=>no σ
   |.bt false=>match w with|true=>no σ|false=>yes σ
   |_=>False
  |none=>False

def Ij (v:V) (K:V→Prop):Prop:=match v with
 |.own t i=>qS i fun i=>K (.own t i)
 |.slc t i o l=>qS i fun i=>K (.slc t i o l)
 |.ptr i z j o=>qS i fun i=>K (.ptr i z j o)
 |.mp t i=>qS i fun i=>K (.mp t i)
 |.agg cs=>gk cs fun cs=>K (.agg cs)
 |.tup cs=>gk cs fun cs=>K (.tup cs)
 |.fn f cs=>gk cs fun cs=>K (.fn f cs)
 |v=>forceV v K
def bm (σ:List V) (d:Option Nat) (v:V) (K:List V→Prop):Prop:=
 match d with
 |none=>K σ
 |some d=>Ij v fun v=>forceL (bg σ d v) K

def Dp:V→V
 |.sl fr t xs=> .sl fr t xs
 |_=> .undef
def wL:V→Nat→Nat→V
 |.rp fr t x o',0,0=> .rp fr t x o'
 |.rb x,0,0=> .rb x
 |_,_,_=> .undef
mutual
def jt (id:Nat) (y:V):V→V
 |.own t i=>bif Nat.beq i id then Dp y else .own t i
 |.slc t i o l=>bif Nat.beq i id then .undef else .slc t i o l
 |.ptr i z j o=>bif Nat.beq i id then wL y j o else .ptr i z j o
 |.mp t i=>bif Nat.beq i id then .undef else .mp t i
 |.rb x=> .rb (jt id y x)
 |.agg cs=> .agg (frzL id y cs)
 |.tup cs=> .tup (frzL id y cs)
 |.fn f cs=> .fn f (frzL id y cs)
 |v=>v
def frzL (id:Nat) (y:V):List V→List V
 |[]=> []
 |x::l=>jt id y x::frzL id y l
end
def Jg (id:Nat) (y:V):Blk→Blk
 |.cells cs=> .cells (frzL id y cs)
 |.mit (some mid) n s l=> .mit (bif Nat.beq mid id then none else some mid) n s l
 |b=>b
def bU (id:Nat) (y:V):List Blk→List Blk
 |[]=> []
 |b::l=>Jg id y b::bU id y l

def jA:List Operand→List V→List Blk→(List V→List Blk→Prop)→Prop
 |[],σ,H,K=>K σ H
 | x::l,σ,H,K=>match x with
  | .tmp t=>(match aL σ t with
   |.own _ id=>(match aD H id with
    |.row fr t xs=>forceL (frzL id (.sl fr t xs) σ) fun σ=>forceL (aH (bU id (.sl fr t xs) H) id .dead) fun H=>jA l σ H K
    |_=>jA l σ H K)
   |_=>jA l σ H K)
  |_=>jA l σ H K

def N9 (E:Env) (σ:List V) (H:List Blk) (o:Op):List Operand:=
 match o with
 |.buildSlice T _ parts=>(match lk E.ty T with|some (.sl (.sl _))=>bif br E.frz 1000009&& !(br E.frz (8000000+T)) then [] else parts.toList.map (·.2)|_=> [])
 |.store _ p x=>(match ev E σ p with| .ptr id _ _ _=>(match aD H id with| .row _ _ _=> [x]| .cells _=>bif br E.frz 1000004 then [x] else []|_=> [])|_=> [])
 |.build T parts=>bif br E.frz 1000004||br E.frz (8000000+T) then parts.toList.map (·.2) else []
 |_=> []
def Ku (E:Env) (σ:List V) (H:List Blk) (o:Oper) (K:List V→List Blk→Prop):Prop:=
 match o.op with
 |.call {callee:= .value (.func k),args,.. }=>(match br E.frz k with
  |true=>jA args.toList σ H fun σ H=>a7 E σ H o.op fun v σ H=>bm σ o.dst v fun σ=>K σ H
  |false=>a7 E σ H o.op fun v σ H=>bm σ o.dst v fun σ=>K σ H)
 | .call {callee:= .value (.tmp t),args,.. }=>(match aL σ t with
  |.yld q=>(match E.yl,q with
   | some (ks,L),some k=>evs E σ args.toList fun vs=>asArgs H ks vs fun ds=>(k<L.1∧ds=L.2 k)∧
     (forceL (yL (some (k+1)) σ) fun σ=>bm σ o.dst (.bt true) fun σ=>K σ [])∧(forceL (yL none σ) fun σ=>bm σ o.dst (.bt false) fun σ=>K σ [])
   |_,_=>False)
  |_=>(match br E.frz (12000000+t) with
   |true=>jA args.toList σ H fun σ H=>a7 E σ H o.op fun v σ H=>bm σ o.dst v fun σ=>K σ H
   |false=>a7 E σ H o.op fun v σ H=>bm σ o.dst v fun σ=>K σ H))
 |_=>(match br E.frz 1000002 with
  |true=>jA (N9 E σ H o.op) σ H fun σ H=>a7 E σ H o.op fun v σ H=>bm σ o.dst v fun σ=>K σ H
  |false=>a7 E σ H o.op fun v σ H=>bm σ o.dst v fun σ=>K σ H)

def zZ (E:Env) (all:List Oper):List Oper→List V→List Blk→(List V→List Blk→Prop)→Prop
 |[],σ,H,K=>K σ H
 | o::l,σ,H,K=>mw all σ o.guard
   (fun σ=>Ku E σ H o fun σ H=>zZ E all l σ H K)
   (fun σ=>bm σ o.dst .nope fun σ=>zZ E all l σ H K)

inductive Mode
 |k|o (t:Ty)|d (t:Ty)|c (l:List (Nat×Ty))|g (l:List (Nat×Ty))|mx|m (i:Nat) (t:Ty)|w (t:Ty)|n (t:Ty)|e (l:List (Nat×Ty))|f (t:Ty)

def Dz:List (Nat×Ty)→List V→List Blk→(List V→List Blk→Prop)→Prop
 |[],cs,H,K=>K cs H
 |(i,t)::l,cs,H,K=>match aL cs i with
  |.nils=>forceL (bg cs i (.own t H.length)) fun cs=>forceL (H++ [.row true t []]) fun H=>Dz l cs H K
  |_=>Dz l cs H K

def ru (id:Nat):List (Nat×Ty)→List Blk→(List Blk→Prop)→Prop
 |[],H,K=>K H
 | (i,t)::l,H,K=>match aD H id with
  | .cells cs=>(match aL cs i with
   |.nils=>forceL (bg cs i (.own t H.length)) fun cs'=>forceL (aH (H++ [.row true t []]) id (.cells cs')) fun H=>ru id l H K
   |.sl _ t xs=>forceL (bg cs i (.sl false t xs)) fun cs'=>forceL (aH H id (.cells cs')) fun H=>ru id l H K
   |.undef=>bif Nat.ble 1000 i then(match aL cs (i-1000) with
    |.nils=>forceL (bg cs (i-1000) (.own t H.length)) fun cs'=>forceL (aH (H++ [.row false t []]) id (.cells cs')) fun H=>ru id l H K
    |_=>ru id l H K) else ru id l H K
   |_=>ru id l H K)
  |_=>False

def rF:List V→List V→List V→List V→List Blk→(List V→List V→List V→List Blk→Prop)→Prop
 |[],cs,vs,ds,H,K=>K cs vs ds H
 |.own _ j::l,cs,vs,ds,H,K=>match aD H j with
  |.row fr t xs=>forceL (frzL j (.sl fr t xs) cs) fun cs=>forceL (frzL j (.sl fr t xs) vs) fun vs=>forceL (frzL j (.sl fr t xs) ds) fun ds=>forceL (aH (bU j (.sl fr t xs) H) j .dead) fun H=>rF l cs vs ds H K
  |_=>False
 |_::l,cs,vs,ds,H,K=>rF l cs vs ds H K

def Ik:List (Nat×Ty)→List V→(List V→Prop)→Prop
 |[],cs,K=>K cs
 |(i,t)::l,cs,K=>match aL cs i with
  |.nils=>forceL (bg cs i (.sl true t [])) fun cs=>Ik l cs K
  |_=>Ik l cs K

def cL:List Mode→List V→List V→List Blk→(List V→List Blk→Prop)→Prop
 |[],_,done,H,K=>K done.reverse H
 |_::_, [],_,_,_=>False
 | m::ms,v::vs,done,H,K=>match m,v with
  |.o t,.nils=>cL ms vs (.own t H.length::done) (H++ [.row true t []]) K
  |.d t,.nils=>cL ms vs (.sl true t []::done) H K
  |.o t,.slc t' id off n=>(match aD H id with
   |.row fr t2 xs=>(t'=t∧t2=t∧off+n=xs.length)∧castK xs fun xs:List t.D=>forceL (ak id vs) fun vs=>forceL (ak id done) fun done=>forceL (aH (bD id H) id (.row fr t (xs.drop off))) fun H=>cL ms vs (.own t id::done) H K
   |_=>False)
  |.w t,.nils=>cL ms vs (.own t H.length::done) (H++ [.row false t []]) K
  |.w _,.own t' id=>(match aD H id with
   |.row _ t xs=>forceL (aH H id (.row false t xs)) fun H=>cL ms vs (.own t' id::done) H K
   |_=>False)
  |.d _,.own t' id=>(match aD H id with
   |.row fr t xs=>bif Nat.beq t.size t'.size then cL ms (frzL id (.sl fr t xs) vs) (.sl fr t xs::frzL id (.sl fr t xs) done) (aH (bU id (.sl fr t xs) H) id .dead) K else False
   |_=>False)
  |.c l,.agg cs=>Dz l cs H fun cs H=>cL ms vs (.agg cs::done) H K
  |.c l,.ptr id z j o=>ru id l H fun H=>cL ms vs (.ptr id z j o::done) H K
  |.c l,.own t id=>ru id l H fun H=>cL ms vs (.own t id::done) H K
  |.g l,.agg (.agg cs::r)=>Dz l cs H fun cs H=>cL ms vs (.agg (.agg cs::r)::done) H K
  | .m i t,.agg cs=>(match aL cs i with
   | .own _ id=>(match aD H id with
    |.cells l=>rF l cs vs done H fun cs vs done H=>(match aD H id,aL cs i with
     |.cells l,.own _ id'=>bif Nat.beq id' id then asEls (.sl t) l fun f xs=>cL ms (frzL id (.sl f (.sl t) xs) vs) (.agg (frzL id (.sl f (.sl t) xs) cs)::frzL id (.sl f (.sl t) xs) done) (aH (bU id (.sl f (.sl t) xs) (aH H id (.row f (.sl t) xs))) id .dead) K else False
     |_,_=>False)
    |_=>False)
   |.nils=>forceL (bg cs i (.sl true (.sl t) [])) fun cs=>cL ms vs (.agg cs::done) H K
   |_=>cL ms vs (.agg cs::done) H K)
  | .n t,.own t0 id=>(match aD H id with
   |.cells l=>rF l [.own t0 id] vs done H fun cs vs done H=>(match aD H id,cs with
    |.cells l, [.own _ id']=>bif Nat.beq id' id then asEls (.sl t) l fun f xs=>cL ms (frzL id (.sl f (.sl t) xs) vs) (.sl f (.sl t) xs::frzL id (.sl f (.sl t) xs) done) (aH (bU id (.sl f (.sl t) xs) (aH H id (.row f (.sl t) xs))) id .dead) K else False
    |_,_=>False)
   |_=>False)
  |.n t,.nils=>cL ms vs (.sl true (.sl t) []::done) H K
  |.e l,.agg cs=>Ik l cs fun cs=>rF cs cs vs done H fun cs vs done H=>cL ms vs (.agg cs::done) H K
  |.f t,.nils=>cL ms vs (.sl false t []::done) H K
  |.f _,.sl _ t xs=>cL ms vs (.sl false t xs::done) H K
  |.f _,.own t' id=>(match aD H id with
   |.row fr t xs=>bif Nat.beq t.size t'.size then cL ms (frzL id (.sl fr t xs) vs) (.sl false t xs::frzL id (.sl fr t xs) done) (aH (bU id (.sl fr t xs) H) id .dead) K else False
   |_=>False)
  |_,v=>cL ms vs (v::done) H K

def eh:List Nat→Nat→Option Nat
 |[],_=>none
 |x::l,n=>bif Nat.beq x n then some 0 else(eh l n).map (· +1)
def nQ:List Nat→Bool
 |[]=>true
 |x::l=> !br l x&&nQ l

mutual
def V.named (sel:List Nat):V→Bool
 |.own _ i=>br sel i
 |.slc _ i _ _=>br sel i
 |.ptr i _ _ _=>br sel i
 |.mp _ i=>br sel i
 |.rb x=>V.named sel x
 |.agg cs=>V.namedL sel cs
 |.tup cs=>V.namedL sel cs
 |.fn _ cs=>V.namedL sel cs
 |_=>true
def V.namedL (sel:List Nat):List V→Bool
 |[]=>true
 |x::l=>x.named sel&&V.namedL sel l
end
mutual
def qJ (sel:List Nat):V→V
 |.own t i=>match eh sel i with|some k=> .own t k|none=> .undef
 |.slc t i o l=>match eh sel i with|some k=> .slc t k o l|none=> .undef
 |.ptr i z j o=>match eh sel i with|some k=> .ptr k z j o|none=> .undef
 |.mp t i=>match eh sel i with|some k=> .mp t k|none=> .undef
 |.rb x=> .rb (qJ sel x)
 |.agg cs=> .agg (renL sel cs)
 |.tup cs=> .tup (renL sel cs)
 |.fn f cs=> .fn f (renL sel cs)
 |v=>v
def renL (sel:List Nat):List V→List V
 |[]=> []
 |x::l=>qJ sel x::renL sel l
end
def yi (sel:List Nat):Blk→Blk
 |.cells cs=> .cells (renL sel cs)
 |.mit (some mid) n s l=> .mit (eh sel mid) n s l
 |b=>b
def bu (sel:List Nat) (H:List Blk):List Nat→List Blk
 |[]=> []
 |i::l=>yi sel (aD H i)::bu sel H l

def Fo:Nat→List Nat→List Nat
 |0,l=>l
 |n+1,l=>Fo n (n::l)
def lN (np:Nat):List V→List Nat
 |[]=> []
 |.own _ i::vs=>bif Nat.blt i np then lN np vs else i::lN np vs
 |_::vs=>lN np vs
def tj (np:Nat):List V→List Nat
 |[]=> []
 |.ptr i _ _ _::vs=>bif Nat.blt i np then tj np vs else i::tj np vs
 |_::vs=>tj np vs
def fw (np:Nat):List Mode→List V→List Nat
 |.o _::ms,.own _ i::vs=>bif Nat.blt i np then fw np ms vs else i::fw np ms vs
 |.c _::ms,.own _ i::vs=>bif Nat.blt i np then fw np ms vs else i::fw np ms vs
 |.w _::ms,.own _ i::vs=>bif Nat.blt i np then fw np ms vs else i::fw np ms vs
 |.c _::ms,.agg cs::vs=>lN np cs++fw np ms vs
 |.c _::ms,.fn _ cs::vs=>tj np cs++fw np ms vs
 |.g _::ms,.agg (.agg cs::_)::vs=>lN np cs++fw np ms vs
 |.mx::ms,.agg cs::vs=>lN np cs++fw np ms vs
 |_::ms,_::vs=>fw np ms vs
 |_,_=> []

def pU (np:Nat) (H:List Blk):List V→List Nat
 |[]=> []
 |.own _ i::vs=>(match aD H i with| .cells cs=>lN np cs|_=> [])++pU np H vs
 |_::vs=>pU np H vs
def zG (np:Nat) (H:List Blk):List Mode→List V→List Nat
 |.mx::ms,.agg cs::vs=>pU np H cs++zG np H ms vs
 |.c _::ms,.own t i::vs=>pU np H [.own t i]++zG np H ms vs
 |_::ms,_::vs=>zG np H ms vs
 |_,_=> []
def zq (np:Nat) (ms:List Mode) (vs:List V) (H:List Blk) (K:List V→List Blk→Prop):Prop:=
 let sel:=Fo np []++(fw np ms vs++zG np H ms vs)
 nQ sel=true∧forceL (renL sel vs) fun vs=>forceL (bu sel H sel) fun H=>K vs H

def Hp (σ:List V):List (Nat×Mode)→(List V→Prop)→Prop
 |[],K=>K []
 |(i,_)::l,K=>forceV (aL σ i).nb fun v=>Hp σ l fun vs=>K (v::vs)

def Cl (np:Nat) (keep:List (Nat×Mode)) (σ:List V) (H:List Blk) (K:List V→List Blk→Prop):Prop:=
 Hp σ keep fun vs=>cL (keep.map (·.2)) vs [] H fun vs H=>zq np (keep.map (·.2)) vs H K

def gP:Nat→Nat→List (Nat×Mode)→List V→List V
 |0,_,_,_=> []
 |f+1,i,keep,vs=>match keep,vs with
  |(j,m)::ks,v::us=>bif Nat.beq j i then v::gP f (i+1) ks us else .undef::gP f (i+1) ((j,m)::ks) (v::us)
  |_,_=> .undef::gP f (i+1) [] []

inductive Ex|normal|exit (id:Nat)|ret

def nX:List Nat→Nat→Nat
 |[],_=>0|x::_,0=>x|_::l,n+1=>nX l n

mutual
def V.noIds:V→Bool
 |.own _ _=>false
 |.slc _ _ _ _=>false
 |.ptr _ _ _ _=>false
 |.mp _ _=>false
 |.rb x=>V.noIds x
 |.agg cs=>V.noIdsL cs
 |.tup cs=>V.noIdsL cs
 |.fn _ cs=>V.noIdsL cs
 |_=>true
def V.noIdsL:List V→Bool
 |[]=>true
 |x::l=>x.noIds&&V.noIdsL l
end
def aV (E:Env) (o:Op):Option Nat:=
 match o with
 |.move _| .assign _| .pick _ _ _| .build _ _| .unOp _ _ _| .makeFunc _ _ _| .index _ _ _| .extract _ _| .field _ _ _=>some 0
 |.convert S _ _=>match lk E.ty S with|some (.sl .u8)=>some 1|_=>some 0
 |.binOp _ T _ _ _=>match lk E.ty T with|some (.sl _)=>none|_=>some 0
 |.slice T _ _ _ _=>match lk E.ty T with|some .str=>some 0|_=>some 1
 |.load _ _| .indexAddr _ _ _| .fieldAddr _ _ _=>some 1
 |.lookup _ _ _ _=>bif br E.frz 1000006 then none else some 1
 |.call {callee:= .builtin .max,.. }| .call {callee:= .builtin .min,.. }=>some 0
 |.call {callee:= .builtin .len,.. }=>some 1
 |.call {callee:= .value _,.. }=>some 2
 |.alloc _| .box _ _| .buildSlice _ _ _| .makeSlice _ _ _=>some 5
 |.store _ _ _| .mapUpdate _ _ _ _=>some 3
 |.call {callee:= .builtin .append,.. }=>some 4
 |_=>none

@[simp] theorem aAL {b:Bool} {x n:Nat}:((bif b then none else some x)=some n)↔(b=false∧x=n):=by cases b<;>simp
def sk (E:Env) (o:Op):Bool:=
 match o with
 |.buildSlice T n _=>Nat.beq n 1&&(match lk E.ty T with|some (.sl (.sl _))=>false|some (.sl _)=>true|_=>false)
 |_=>false
def plE (E:Env) (o:Op):Bool:=br E.frz 1000003||(match o with
 |.buildSlice _ _ ps=>(match ps.toList with| [(_,.tmp t)]=>br E.frz (4000000+t)| [(_,.const _)]=>br E.frz 4000000|_=>false)
 |_=>false)
def mkV (E:Env) (o:Op):Bool:=match o with| .makeSlice _ (.tmp t) _=>br E.frz (9000000+t)&& !br E.frz 1000000|_=>false
def jR (E:Env) (o:Op):Bool:=(sk E o&& !plE E o)||mkV E o
def rc (E:Env) (σ:List V) (H:List Blk) (o:Op) (K:V→List V→List Blk→Prop):Prop:=
 match o with
 |.buildSlice T n parts=>bif qp parts.toList 0 n then evs E σ (parts.toList.map (·.2)) fun vs=>(match lk E.ty T with
  |some (.sl t)=>bif Nat.ble (vs.length*t.size) 16777216 then asEls t vs fun f xs=>K (.sl (t.flat||f) t xs) σ H else False
  |_=>False) else False
 |.makeSlice T l c=>(match lk E.ty T,ev E σ l,ev E σ c with
  |some (.sl t),.int _ n,.int _ m=>(n=m∧0≤n∧n≤1000000000)∧K (.sl true t (List.replicate n.toNat t.dflt)) σ H
  |_,_,_=>False)
 |_=>False
def cy (E:Env) (o:Op):Bool:=match o with| .alloc _=>true| .buildSlice T n ps=>sk E (.buildSlice T n ps)&&plE E (.buildSlice T n ps)| .makeSlice _ (.tmp t) _=>br E.frz (10000000+t)|_=>false
def fz (E:Env):List Oper→Nat
 |[]=>0
 |o::l=>bif cy E o.op then fz E l+1 else fz E l
def dA (E:Env):Nat→List Oper→Nat
 |0,_=>0
 |_, []=>0
 |k+1,o::l=>bif cy E o.op then dA E k l+1 else dA E k l
def lm (E:Env) (r:Nat) (σ:List V) (H:List Blk) (o:Op) (K:V→List V→List Blk→Prop):Prop:=
 match o with
 | .alloc T=>(match aD H r with
  |.dead=>bif Nat.blt r H.length then(match lk E.ty T with
   |some (.arr n t)=>bif Nat.blt 0 n&&Nat.blt 0 t.size then forceL (aH H r (.row true t (List.replicate n t.dflt))) (K (.ptr r t.size 0 0) σ) else False
   |some t=>bif Nat.blt 0 t.size then forceL (cK t) fun cs=>forceL (aH H r (.cells cs)) (K (.ptr r 1 0 0) σ) else False
   |none=>False) else False
  |_=>False)
 |.buildSlice T n ps=>(match aD H r with
  |.dead=>bif Nat.blt r H.length then rc E σ H (.buildSlice T n ps) fun v σ H=>(match v with| .sl f t xs=>forceL (aH H r (.row f t xs)) (K (.own t r) σ)|_=>False) else False
  |_=>False)
 | .makeSlice T l c=>(match aD H r with
  |.dead=>bif Nat.blt r H.length then(match lk E.ty T,ev E σ l,ev E σ c with
   |some (.sl t),.int _ n,.int _ m=>(n=m∧0≤n∧n≤1000000000)∧forceL (aH H r (.row true t (List.replicate n.toNat t.dflt))) (K (.own t r) σ)
   |_,_,_=>False) else False
  |_=>False)
 |_=>False
def eC (E:Env) (σ:List V) (H:List Blk) (T:TypeId) (x y:V) (K:V→List V→List Blk→Prop):Prop:=
 match lk E.ty T,x with
 |some (.sl t),.nils=>asRow H t y fun f ys=>(ys.length≤1000000000)∧forceL (H++ [.dead]) (K (.sl f t ys) σ)
 |some (.sl t),.own t0 id=>
  match aD H id with
  |.row fr t' xs=>(t0=t∧t'=t)∧castK xs fun xs=>asRow H t y fun f ys=>(xs.length+ys.length≤1000000000)∧forceL (ak id σ) fun σ=>forceL (aH (bD id H) id .dead) (K (.sl (fr&&f) t (xs++ys)) σ)
  |_=>False
 |_,_=>False
def vC (E:Env) (σ:List V) (H:List Blk) (o:Op) (K:V→List V→List Blk→Prop):Prop:=
 match o with
 |.call {callee:= .builtin .append,args,argTypes}=>match args.toList,argTypes.toList with| [x,y], [T,T']=>bif Nat.beq T T' then eC E σ H T (ev E σ x) (ev E σ y) K else False|_,_=>False
 |_=>False
def iL (o:Op):Bool:=match o with| .call {callee:= .builtin .append,.. }=>true|_=>false
def ll (E:Env) (r:Nat) (σ:List V) (H:List Blk) (o:Op) (K:V→List V→List Blk→Prop):Prop:=
 bif jR E o then rc E σ H o K else bif cy E o then lm E r σ H o K else bif Nat.beq r 1&&iL o then vC E σ H o K else a7 E σ H o K
def Yp (E:Env) (d:Nat):List Oper→Bool
 |[]=>false
 |o::l=>(match o.op with| .call {callee:= .value (.func f),args,.. }=>br E.frz f&&br (args.toList.map fun x=>match x with| .tmp t=>t+1|_=>0) (d+1)|_=>false)||Yp E d l
def yo (E:Env) (all:List Oper) (b k:Nat) (o:Oper):Nat:=bif cy E o.op then b+dA E k all else match o.dst with|some d=>bif Yp E d all||br E.frz (11000000+d) then 1 else 0|none=>0
def V1 (E:Env) (o:Op):Bool:=match o with| .store _ _ x=>br E.frz 7000000||(match x with| .tmp t=>br E.frz (7100000+t)|_=>false)|_=>false
def aU (E:Env) (o:Op):Option Nat:=bif jR E o then some 0 else bif cy E o then some 6 else bif V1 E o then some 4 else aV E o

def rO (acc:List Nat):List Edge→Nat
 |[]=>0
 |e::l=>bif Region.binds .any e then Nat.lor (Nat.lor (2^e.on) (nX acc e.on)) (rO acc l) else rO acc l
def ae:List Oper→List Nat→List Nat
 |[],acc=>acc
 |o::l,acc=>ae l (acc++ [rO acc o.after.toList])
def Q2 (ms:List Nat) (i j:Nat):Bool:=Nat.testBit (nX ms j) i

def isT (E:Env) (o:Oper):Bool:=match aU E o.op with|some 0=>true|_=>false
def isF (E:Env) (o:Oper):Bool:=match aU E o.op with|some 5=>true|_=>false
def Mj (E:Env) (o:Oper):Bool:=match aU E o.op with|some 1=>true|_=>false
def is2 (E:Env) (o:Oper):Bool:=match aU E o.op with|some 2=>true|_=>false
def I7 (E:Env) (o:Oper):Bool:=match aU E o.op with|some 0=>true|some 1=>true|_=>false
def is6 (E:Env) (o:Oper):Bool:=match aU E o.op with|some 6=>true|_=>false
def eg (E:Env) (o:Oper):Bool:=match aU E o.op with|some 4=>true|_=>false
def Il (E:Env) (ms:List Nat) (k:Nat):Nat→List Oper→Bool
 |_, []=>false
 |j,o::l=>(!(Nat.beq j k)&& !(I7 E o)&& !(is6 E o)&& !(Q2 ms j k)&& !(Q2 ms k j))||Il E ms k (j+1) l
def dj (E:Env) (all:List Oper) (k:Nat):Bool:=Il E (ae all []) k 0 all
def bn (E:Env) (all:List Oper) (k:Nat) (o:Oper):Bool:=match aU E o.op with|some 1=>true|some 2=>dj E all k|_=>false

def jT:List Operand→List Nat
 |[]=> []
 |.tmp t::l=>t::jT l
 |_::l=>jT l
def looks (all:List Oper) (o:Oper):List Nat:=
 match o.guard with
 |some (g,_)=>(match(all[g]?).bind (·.dst) with|some t=>t::jT o.op.operands.toList|none=>jT o.op.operands.toList)
 |none=>jT o.op.operands.toList
def Kr (all:List Oper) (x y:Oper):Bool:=
  (match x.dst with
   |some d=> !br (looks all y) d&&(match y.dst with|some d'=> !Nat.beq d d'|none=>true)
   |none=>true)&&
  (match y.dst with
   |some d=> !br (looks all x) d
   |none=>true)
def qQ (E:Env) (all:List Oper) (ms:List Nat) (i:Nat) (x:Oper) (j:Nat) (y:Oper):Bool:=
 Q2 ms i j||(((!eg E x&& !eg E y&&(isT E x||isT E y||(bn E all i x&&bn E all j y)||(bn E all i x&&isF E y)||(isF E x&&Mj E y)||(Mj E x&&is2 E y)||(is2 E x&&Mj E y)))||(eg E x&&I7 E y)||(I7 E x&&eg E y)||is6 E y)&&Kr all x y)
def tr (E:Env) (all:List Oper) (ms:List Nat) (j:Nat) (y:Oper):Nat→List Oper→Bool
 |_, []=>true
 |i,x::l=>bif Nat.beq i j then true else qQ E all ms i x j y&&tr E all ms j y (i+1) l
def pT (j:Nat):List Edge→Bool
 |[]=>true
 |e::l=>(!Region.binds .any e||Nat.blt e.on j)&&pT j l
def tq (E:Env) (all:List Oper) (ms:List Nat):Nat→List Oper→Bool
 |_, []=>true
 |j,y::l=>(aU E y.op).isSome&&pT j y.after.toList&&tr E all ms j y 0 all&&tq E all ms (j+1) l
def uA (E:Env) (all:List Oper):Bool:= !br E.frz 6000000&&tq E all (ae all []) 0 all

mutual
def V.older (n:Nat):V→Bool
 |.own _ i=>Nat.blt i n
 |.slc _ i _ _=>Nat.blt i n
 |.ptr i _ _ _=>Nat.blt i n
 |.mp _ i=>Nat.blt i n
 |.rb x=>V.older n x
 |.agg cs=>V.olderL n cs
 |.tup cs=>V.olderL n cs
 |.fn _ cs=>V.olderL n cs
 |_=>true
def V.olderL (n:Nat):List V→Bool
 |[]=>true
 |x::l=>x.older n&&V.olderL n l
end
def bP (ms:List Nat) (i k:Nat):Bool:=bif Nat.blt i k then !(Q2 ms i k) else !(Q2 ms k i)
def qz (E:Env):List Oper→Bool
 |[]=>false
 |o::l=>eg E o||qz E l
def vT (E:Env) (ms:List Nat) (k:Nat):Nat→List Oper→Bool
 |_, []=>false
 |i,o::l=>(eg E o&& !(Nat.beq i k)&&bP ms i k)||vT E ms k (i+1) l
def Z8 (E:Env) (all:List Oper) (k:Nat):Bool:=qz E all&&vT E (ae all []) k 0 all
def ir (n:Nat) (σ:List V):List Nat→Bool
 |[]=>true
 |t::l=>(aL σ t).older n&&ir n σ l
def xR (o:Oper):List Nat:=match o.dst with|some d=> [d]|none=> []
def qP (all:List Oper) (ms:List Nat) (k n:Nat) (σ:List V):Nat→List Oper→Bool
 |_, []=>true
 |i,o::l=>(Nat.beq i k|| !(bP ms i k)||(ir n σ (looks all o)&&ir n σ (xR o)))&&qP all ms k n σ (i+1) l
def re (ms:List Nat) (k:Nat):Nat→List Oper→Bool
 |_, []=>false
 |i,_::l=>(!(Nat.beq i k)&&bP ms i k)||re ms k (i+1) l
def fK (E:Env) (σ:List V) (o:Op):Option Nat:=
 match o with
 |.call {callee:= .builtin .append,args,.. }=>match args.toList with|x::_=>(match ev E σ x with| .own _ id=>some id|_=>none)|_=>none
 |.store _ p _=>(match ev E σ p with| .ptr id _ _ _=>some id|_=>none)
 |_=>none
def qV (id:Nat) (X:List Nat):Nat→Nat→List Blk→Bool
 |0,_,_=>true
 |_,_, []=>true
 |n+1,i,b::l=>(br X i||(match b with| .cells cs=> !(V.mentionsL id cs)| .mit (some m) _ _ _=> !(Nat.beq m id)|_=>true))&&qV id X n (i+1) l
def zC (id:Nat):Nat→Nat→List Blk→List Nat
 |0,_,_=> []
 |_,_, []=> []
 |n+1,i,b::l=>bif (match b with| .cells cs=>V.mentionsL id cs|_=>false) then i::zC id n (i+1) l else zC id n (i+1) l
def gl (id:Nat) (σ:List V):List Nat→Bool
 |[]=>true
 |t::l=> !((aL σ t).mentions id)&&gl id σ l
def vj (t:Nat):List Oper→Nat
 |[]=>t
 |o::l=>match o.op,o.dst,o.guard with
  |.move (.tmp s),some d,none=>bif Nat.beq d t then s else vj t l
  |_,_,_=>vj t l
def zU:List Oper→Nat
 |[]=>0
 |o::l=>(match o.op with| .alloc _=>zU l+1|_=>zU l)
def Po (t:Nat):Nat→List Oper→Option Nat
 |_, []=>none
 |r,o::l=>(match o.op with| .alloc _=>(match o.dst with|some d=>bif Nat.beq d t then some r else Po t (r+1) l|none=>Po t (r+1) l)|_=>Po t r l)
def Ux (t:Nat):List Oper→Option (Nat×Nat)
 |[]=>none
 |o::l=>match o.op,o.dst with
  |.indexAddr _ (.tmp v) (.tmp i),some d=>bif Nat.beq d t then some (v,i) else Ux t l
  |_,_=>Ux t l
def Tw (t:Nat):List Oper→Option (Nat×Nat)
 |[]=>none
 |o::l=>match o.op,o.dst with
  |.fieldAddr _ (.tmp x) f,some d=>bif Nat.beq d t then some (x,f) else Tw t l
  |_,_=>Tw t l
def ldP (t:Nat):List Oper→Option Nat
 |[]=>none
 |o::l=>match o.op,o.dst with
  |.load _ (.tmp p),some d=>bif Nat.beq d t then some p else ldP t l
  |_,_=>ldP t l
def I1 (n:Nat) (σ:List V) (H:List Blk) (all:List Oper):List Oper→List (Option (Nat×List Nat))
 |[]=> []
 | o::l=>((match o.op with
  | .call {callee:= .builtin .append,args,.. }=>(match args.toList with
   | .tmp t::_=>(match aL σ (vj t all) with
    |.own _ id=>bif Nat.blt id n then some id else none
    | _=>(match ldP t all with
     | some p=>(match(match Ux p all with
      |some (v,i)=>(match aL σ (vj v all),aL σ (vj i all) with
       |.own _ r,.int _ k=>(match aD H r with| .cells cs=>aL cs k.toNat|_=> .undef)
       |_,_=> .undef)
      |none=>(match Tw p all with
       |some (x,f)=>(match aL σ (vj x all) with| .ptr r _ j _=>(match aD H r with| .cells cs=>aL cs (j+f)|_=> .undef)|_=> .undef)
       |none=>(match aL σ (vj p all) with| .ptr r _ j _=>(match aD H r with| .cells cs=>aL cs j|_=> .undef)|_=> .undef))) with
      |.own _ id=>bif Nat.blt id n then some id else none
      |_=>none)
     |none=>none))
   |_=>none)
  |.store _ (.tmp t) _=>(match Po t (n-zU all) all with|some r=>some r|none=>(match aL σ (vj t all) with| .ptr id _ _ _=>bif Nat.blt id n then some id else none|_=>none))
  |_=>none).map fun id=>(id,zC id n 0 H))::I1 n σ H all l
def dK:List (Option (Nat×List Nat))→Nat→Option (Nat×List Nat)
 |[],_=>none
 |x::_,0=>x
 |_::l,k+1=>dK l k
abbrev zh:=Nat×List (Option (Nat×List Nat))
def rgn (n:Nat) (σ:List V) (H:List Blk) (all:List Oper):zh:=(n,I1 n σ H all all)
def zY (E:Env) (ms:List Nat) (κ:List (Option (Nat×List Nat))) (k:Nat) (chk:Nat×List Nat→Bool):Nat→List Oper→Bool
 |_, []=>true
 |i,o::l=>(match dK κ i with|some id=> !(eg E o&& !(Nat.beq i k)&&bP ms i k)||chk id|none=>true)&&zY E ms κ k chk (i+1) l
def Pe (E:Env) (all:List Oper) (κ:List (Option (Nat×List Nat))) (k:Nat) (chk:Nat×List Nat→Bool):Bool:=zY E (ae all []) κ k chk 0 all
def wX (all:List Oper) (ms:List Nat) (k id:Nat) (σ:List V):Nat→List Oper→Bool
 |_, []=>true
 |i,o::l=>(Nat.beq i k|| !(bP ms i k)||(gl id σ (looks all o)&&gl id σ (xR o)))&&wX all ms k id σ (i+1) l
def Qr (κ:List (Option (Nat×List Nat))) (k id:Nat):Bool:=match dK κ k with|some i=>Nat.beq i.1 id|none=>false
def xP (κ:List (Option (Nat×List Nat))) (k:Nat):List Nat:=match dK κ k with|some i=>i.2|none=> []
def pN (σ:List V) (l:List Nat):List Nat→Bool
 |[]=>true
 |i::X=>gl i σ l&&pN σ l X
def vU (E:Env) (ms:List Nat) (k:Nat):Nat→List Oper→Bool
 |_, []=>false
 |i,o::l=>(Mj E o&& !(Nat.beq i k)&&bP ms i k)||vU E ms k (i+1) l
def Sx (E:Env) (all:List Oper) (n:zh) (k:Nat) (o:Oper) (σ:List V) (H:List Blk):Bool:=
 !(re (ae all []) k 0 all)||(qP all (ae all []) k n.1 σ 0 all&&Nat.ble n.1 H.length&&(match fK E σ o.op with|some id=>(!(vU E (ae all []) k 0 all)||qV id (xP n.2 k) n.1 0 H)&&(Nat.ble n.1 id||(Qr n.2 k id&&wX all (ae all []) k id σ 0 all))|none=>true))
def Qx (r:Nat) (H:List Blk):Bool:=(match aD H r with| .dead=>true|_=>false)&&Nat.blt r H.length
def Np:Ty→Bool
 |.cons _ _| .arr _ _| .nil=>false
 |_=>true
def Yo:V→Bool
 |.undef=>true
 |_=>false
def qK (E:Env) (n:Nat) (o:Op) (σ:List V) (H:List Blk) (id:Nat):Bool:=
 match o with
 |.fieldAddr _ x _=>(match ev E σ x with| .ptr r _ _ _=>(match aD H r with| .cells _=>true|_=>false)|_=>false)
 |.load T p=>(match ev E σ p,lk E.ty T with
  |.ptr r _ j _,some t=>Np t&&(match aD H r with| .cells cs=> !(V.mentions id (aL cs j))&& !(Yo (aL cs j))&&V.older n (aL cs j)|_=>false)
  |_,_=>false)
 |_=>false
def wR (E:Env) (all:List Oper) (n:zh) (k:Nat) (o:Oper) (σ:List V) (H:List Blk):Bool:=
 !(Z8 E all k)||(ir n.1 σ (looks all o)&&ir n.1 σ (xR o)&&Pe E all n.2 k fun q=>gl q.1 σ (looks all o)&&gl q.1 σ (xR o)&&(!(Mj E o)||(pN σ (looks all o) q.2||qK E n.1 o.op σ H q.1)))
def wQ (E:Env) (all:List Oper) (n:zh) (r k:Nat) (o:Oper) (σ:List V) (H:List Blk):Bool:=
 match aU E o.op with
 |some 0=>wR E all n k o σ H
 |some 1=>wR E all n k o σ H
 |some 4=>Sx E all n k o σ H
 |some 6=>Qx r H&&wR E all n k o σ H
 |some 5=>Nat.ble n.1 H.length
 |_=>true
def lL (E:Env) (all:List Oper) (n:zh) (k:Nat) (v:V):Bool:= !(Z8 E all k)||(v.older n.1&&Pe E all n.2 k fun q=> !(v.mentions q.1))
def oP (E:Env) (all:List Oper) (n:zh) (k:Nat) (o:Oper) (H H':List Blk) (v:V):Bool:=
 match aU E o.op with
 |some 0=>lL E all n k v
 |some 1=>lL E all n k v
 |some 2=> !(dj E all k)||(Nat.beq H'.length H.length&&v.noIds)
 |some 6=>lL E all n k v
 |_=>true

def mn (E:Env) (all:List Oper) (n:zh) (b:Nat):Nat→List Oper→List V→List Blk→(List V→List Blk→Prop)→Prop
 |_, [],σ,H,K=>K σ H
 | k,o::l,σ,H,K=>bif wQ E all n (yo E all b k o) k o σ H then gn all σ o.guard
   (ll E (yo E all b k o) σ H o.op fun v σ H'=>bif oP E all n k o H H' v then bm σ o.dst v fun σ=>mn E all n b (k+1) l σ H' K else False)
   (bm σ o.dst .nope fun σ=>mn E all n b (k+1) l σ H K) else False

def oM (np:Nat) (ms:List Mode) (g:Nat) (H:List Blk) (K:List V→List Blk→Prop):Prop:=
 match aD H g with
 |.cells (.tup []::vs)=>cL ms vs [] H fun vs H=>(br (Fo np []++(fw np ms vs++zG np H ms vs)) g=false)∧zq np ms vs H K
 |_=>False

def oK:List Nat→List V→List V→List V
 |p::ps,x::xs,σ=>oK ps xs (bg σ p x)
 |_,_,σ=>σ

def oe:List PK→List V→List V→List V→List Blk→(List V→List V→List Blk→Prop)→Prop
 |[], [],done,σ,H,K=>K done.reverse σ H
 | k::ks,v::vs,done,σ,H,K=>match k,v with
  | .ref t,.ptr id _ i o=>(match aD H id,i,o with
   |.cells cs,0,0=>asCellsN t cs fun f x l=>(match l with
    |[]=>forceL (frzL id (.rp f t x 0) σ) fun σ=>forceL (frzL id (.rp f t x 0) vs) fun vs=>forceL (frzL id (.rp f t x 0) done) fun done=>forceL (aH (bU id (.rp f t x 0) H) id .dead) fun H=>oe ks vs (.rp f t x 0::done) σ H K
    |_=>False)
   |_,_,_=>False)
  |.rf _,.ptr id _ i o=>(match aD H id,i,o with
   |.cells [.fn g cs],0,0=>(V.noIdsL cs=true)∧forceL (frzL id (.rb (.fn g cs)) σ) fun σ=>forceL (frzL id (.rb (.fn g cs)) vs) fun vs=>forceL (frzL id (.rb (.fn g cs)) done) fun done=>forceL (aH (bU id (.rb (.fn g cs)) H) id .dead) fun H=>oe ks vs (.rb (.fn g cs)::done) σ H K
   |_,_,_=>False)
  |_,v=>oe ks vs (v::done) σ H K
 |_,_,_,_,_,_=>False

def Env.inR (E:Env):Env:={E with yl:=none,rf:=false}

def qe (w:(Ex→List V→List Blk→Prop)→List V→List Blk→Prop) (Q:Ex→List V→List Blk→Prop) (σ:List V) (H:List Blk):Prop:=
 ∃ (np:Nat) (keep:List (Nat×Mode)) (I:Nat→List V→List Blk→Prop),Cl np keep σ H (fun vs H=>∃n,I n vs H)∧
   ∀n vs H,I n vs H→let len:=σ.length
    forceL (gP len 0 keep vs) fun σ=>forceL H fun H=>w (fun e σ H=>match e with
     |.normal=>bif Nat.beq σ.length len then Cl np keep σ H fun vs H=>∃m,m<n∧I m vs H else False
     |.exit i=>Q (.exit i) σ H| .ret=>Q .ret σ H) σ H
def jQ (np:Nat) (keep:List (Nat×Mode)) (len:Nat) (I:List V→List Blk→Prop) (Q:Ex→List V→List Blk→Prop):Ex→List V→List Blk→Prop:=fun e σ H=>match e with
 |.normal=>bif Nat.beq σ.length len then Cl np keep σ H I else False
 |.exit i=>Q (.exit i) σ H| .ret=>Q .ret σ H
def J2 (wx wy:(Ex→List V→List Blk→Prop)→List V→List Blk→Prop) (p:Prop) (t:Nat) (Q:Ex→List V→List Blk→Prop) (σ:List V) (H:List Blk):Prop:=
 ∃(np:Nat) (keep:List (Nat×Mode)) (I:List V→List Blk→Prop),
  (p→forceL (bg σ t (.bt true)) fun σ'=>wx (jQ np keep σ.length I Q) σ' H)∧(¬p→forceL (bg σ t (.bt false)) fun σ'=>wy (jQ np keep σ.length I Q) σ' H)∧
  ∀vs H,I vs H→forceL (gP σ.length 0 keep vs) fun σ=>forceL H fun H=>Q .normal σ H
def Vz (w:(Ex→List V→List Blk→Prop)→List V→List Blk→Prop) (Q:Ex→List V→List Blk→Prop):Nat→List V→List Blk→Prop
 |0,_,_=>False
 |k+1,σ,H=>w (fun e σ H=>match e with| .normal=>Vz w Q k σ H| .exit i=>Q (.exit i) σ H| .ret=>Q .ret σ H) σ H
def gB (E:Env):Code→(Ex→List V→List Blk→Prop)→List V→List Blk→Prop
 |.skip,Q,σ,H=>Q .normal σ H
 |.region _ ops draw,Q,σ,H=>bif draw then uA E.dr ops.toList=true∧forceL (H++List.replicate (fz E.dr ops.toList) .dead) fun H'=>mn E.dr ops.toList (rgn H'.length σ H' ops.toList) H.length 0 ops.toList σ H' (Q .normal) else zZ E ops.toList ops.toList σ H (Q .normal)
 |.seq x y,Q,σ,H=>gB E x (fun e σ H=>match e with| .normal=>gB E y Q σ H| .exit i=>Q (.exit i) σ H| .ret=>Q .ret σ H) σ H
 | .cond c x y,Q,σ,H=>match lr E σ c with
  |.b p=>(match c with
   |.tmp t=>bif br E.frz (5000000+t) then J2 (gB E x) (gB E y) p t Q σ H else(p→forceL (bg σ t (.bt true)) fun σ=>gB E x Q σ H)∧(¬p→forceL (bg σ t (.bt false)) fun σ=>gB E y Q σ H)
   |_=>(p→gB E x Q σ H)∧(¬p→gB E y Q σ H))
  |.bt true=>gB E x Q σ H
  |.bt false=>gB E y Q σ H
  |_=>False
 |.block id c,Q,σ,H=>gB E c (fun e σ H=>match e with| .normal=>Q .normal σ H| .exit i=>bif Nat.beq i id then Q .normal σ H else Q (.exit i) σ H| .ret=>Q .ret σ H) σ H
 |.loop c,Q,σ,H=>bif br E.frz 1000001 then qe (gB E c) Q σ H∨Vz (gB E c) Q 64 σ H else qe (gB E c) Q σ H
 |.exit id,Q,σ,H=>Q (.exit id) σ H
 |.ret,Q,σ,H=>Q .ret σ H
 |.label _,Q,σ,H=>Q .normal σ H
 |.scope c,Q,σ,H=>gB E c Q σ H
 | .rangeFunc f ps as c,Q,σ,H=>E.rf=true∧match ev E σ f with
  | .fn k caps=>(match lk E.seq k with
   |some (ks,spec)=>oe ks caps [] σ H fun caps σ H=>forceL (yL none caps) fun caps=>asArgs [] ks caps fun ds=>(match spec ds with
    | some (p,L)=>(p∧∀n,n<L.1→(L.2 n).length=ps.size)∧∃(np:Nat) (keep:List (Nat×Mode)) (I:Nat→List V→List Blk→Prop),Cl np keep σ H (I 0)∧
      (∀n vs H,I n vs H→n<L.1→forceL (oK ps.toList (L.2 n) (gP σ.length 0 keep vs)) fun σr=>
       forceL (H++ [.cells (.tup []::vs)]) fun Hr=>gB E.inR as (fun e σ' H'=>match e with
        |.normal=>gB E.inR c (fun e σ' H'=>match e with
         |.normal=>oM np (keep.map (·.2)) H.length H' (I (n+1))
         |.exit i=>oM np (keep.map (·.2)) H.length H' fun vs H=>forceL (gP σ.length 0 keep vs) fun σ=>Q (.exit i) σ H
         |.ret=>oM np (keep.map (·.2)) H.length H' fun vs H=>forceL (gP σ.length 0 keep vs) fun σ=>Q .ret σ H) σ' H'
        |_=>False) σr Hr)∧
      (∀vs H,I L.1 vs H→forceL (gP σ.length 0 keep vs) fun σ=>forceL H fun H=>Q .normal σ H)
    |none=>False)
   |none=>False)
  |_=>False
 |_,_,_,_=>False

def Mn:=List V→List Blk→(List V→List Blk→Prop)→Prop
def Q3 (E:Env) (all:List Oper) (o:Oper) (ih:Mn):Mn:=fun σ H K=>mw all σ o.guard
   (fun σ=>Ku E σ H o fun σ H=>ih σ H K)
   (fun σ=>bm σ o.dst .nope fun σ=>ih σ H K)
def Zz:Mn:=fun σ H K=>K σ H
noncomputable def Ks (E:Env) (all:List Oper) (l:List Oper):Mn:=List.rec (motive:=fun _=>Mn) Zz (fun o _ ih=>Q3 E all o ih) l
theorem xl (E:Env) (all:List Oper):∀l:List Oper,Ks E all l=zZ E all l
 |[]=>rfl
 |o::l=>by
  funext σ H K
  show Q3 E all o (Ks E all l) σ H K=_
  rw [xl E all l];rfl
def Kt (E:Env) (all:List Oper) (n:zh) (b:Nat) (o:Oper) (ih:Nat→Mn):Nat→Mn:=fun k σ H K=>bif wQ E all n (yo E all b k o) k o σ H then gn all σ o.guard
   (ll E (yo E all b k o) σ H o.op fun v σ H'=>bif oP E all n k o H H' v then bm σ o.dst v fun σ=>ih (k+1) σ H' K else False)
   (bm σ o.dst .nope fun σ=>ih (k+1) σ H K) else False
def Uu:Nat→Mn:=fun _ σ H K=>K σ H
noncomputable def vA (E:Env) (all:List Oper) (n:zh) (b:Nat) (k:Nat) (l:List Oper):Mn:=List.rec (motive:=fun _=>Nat→Mn) Uu (fun o _ ih=>Kt E all n b o ih) l k
theorem tH (E:Env) (all:List Oper) (n:zh) (b:Nat):∀(l:List Oper) (k:Nat),vA E all n b k l=mn E all n b k l
 |[],k=>rfl
 |o::l,k=>by
  funext σ H K
  show Kt E all n b o (fun k=>vA E all n b k l) k σ H K=_
  rw [show(fun k=>vA E all n b k l)=fun k=>mn E all n b k l from funext fun k=>tH E all n b l k];rfl
def Q7:=Ex→List V→List Blk→Prop
def Wd (w:Q7→List V→List Blk→Prop) (Q:Q7) (ih:List V→List Blk→Prop):List V→List Blk→Prop:=fun σ H=>w (fun e σ H=>match e with| .normal=>ih σ H| .exit i=>Q (.exit i) σ H| .ret=>Q .ret σ H) σ H
def aAP:List V→List Blk→Prop:=fun _ _=>False
noncomputable def Fq (w:Q7→List V→List Blk→Prop) (Q:Q7) (n:Nat):List V→List Blk→Prop:=Nat.rec (motive:=fun _=>List V→List Blk→Prop) aAP (fun _ ih=>Wd w Q ih) n
theorem zu (w:Q7→List V→List Blk→Prop) (Q:Q7):∀n,Fq w Q n=Vz w Q n
 |0=>rfl
 |n+1=>by
  funext σ H
  show Wd w Q (Fq w Q n) σ H=_
  rw [zu w Q n];rfl
def AW:=Env→Q7→List V→List Blk→Prop
def Qm:AW:=fun E Q σ H=>Q .normal σ H
def uK (ops:Array Oper) (draw:Bool):AW:=fun E Q σ H=>bif draw then uA E.dr ops.toList=true∧forceL (H++List.replicate (fz E.dr ops.toList) .dead) fun H'=>vA E.dr ops.toList (rgn H'.length σ H' ops.toList) H.length 0 ops.toList σ H' (Q .normal) else Ks E ops.toList ops.toList σ H (Q .normal)
def aA0 (ihx ihy:AW):AW:=fun E Q σ H=>ihx E (fun e σ H=>match e with| .normal=>ihy E Q σ H| .exit i=>Q (.exit i) σ H| .ret=>Q .ret σ H) σ H
def Qo (c:Operand) (ihx ihy:AW):AW:=fun E Q σ H=>match lr E σ c with
  |.b p=>(match c with
   |.tmp t=>bif br E.frz (5000000+t) then J2 (ihx E) (ihy E) p t Q σ H else(p→forceL (bg σ t (.bt true)) fun σ=>ihx E Q σ H)∧(¬p→forceL (bg σ t (.bt false)) fun σ=>ihy E Q σ H)
   |_=>(p→ihx E Q σ H)∧(¬p→ihy E Q σ H))
  |.bt true=>ihx E Q σ H
  |.bt false=>ihy E Q σ H
  |_=>False
def Ta (id:Nat) (ih:AW):AW:=fun E Q σ H=>ih E (fun e σ H=>match e with| .normal=>Q .normal σ H| .exit i=>bif Nat.beq i id then Q .normal σ H else Q (.exit i) σ H| .ret=>Q .ret σ H) σ H
def Qn (ih:AW):AW:=fun E Q σ H=>bif br E.frz 1000001 then qe (ih E) Q σ H∨Fq (ih E) Q 64 σ H else qe (ih E) Q σ H
def It (f:Operand) (ps:Array Tmp) (iha ihc:AW):AW:=fun E Q σ H=>E.rf=true∧match ev E σ f with
  | .fn k caps=>(match lk E.seq k with
   |some (ks,spec)=>oe ks caps [] σ H fun caps σ H=>forceL (yL none caps) fun caps=>asArgs [] ks caps fun ds=>(match spec ds with
    | some (p,L)=>(p∧∀n,n<L.1→(L.2 n).length=ps.size)∧∃(np:Nat) (keep:List (Nat×Mode)) (I:Nat→List V→List Blk→Prop),Cl np keep σ H (I 0)∧
      (∀n vs H,I n vs H→n<L.1→forceL (oK ps.toList (L.2 n) (gP σ.length 0 keep vs)) fun σr=>
       forceL (H++ [.cells (.tup []::vs)]) fun Hr=>iha E.inR (fun e σ' H'=>match e with
        |.normal=>ihc E.inR (fun e σ' H'=>match e with
         |.normal=>oM np (keep.map (·.2)) H.length H' (I (n+1))
         |.exit i=>oM np (keep.map (·.2)) H.length H' fun vs H=>forceL (gP σ.length 0 keep vs) fun σ=>Q (.exit i) σ H
         |.ret=>oM np (keep.map (·.2)) H.length H' fun vs H=>forceL (gP σ.length 0 keep vs) fun σ=>Q .ret σ H) σ' H'
        |_=>False) σr Hr)∧
      (∀vs H,I L.1 vs H→forceL (gP σ.length 0 keep vs) fun σ=>forceL H fun H=>Q .normal σ H)
    |none=>False)
   |none=>False)
  |_=>False
def X0 (id:Nat):AW:=fun E Q σ H=>Q (.exit id) σ H
def aA1:AW:=fun E Q σ H=>Q .ret σ H
def mNo:AW:=fun _ _ _ _=>False
noncomputable def aCX (c:Code):AW:=Code.rec (motive:=fun _=>AW) Qm (fun _ ops draw=>uK ops draw) (fun _ _ ihx ihy=>aA0 ihx ihy) (fun c _ _ ihx ihy=>Qo c ihx ihy) (fun id _ ih=>Ta id ih) (fun _ ih=>Qn ih) (fun f ps _ _ iha ihc=>It f ps iha ihc) X0 (fun _ ih=>ih) (fun _=>Qm) (fun _=>mNo) aA1 (fun _=>mNo) c
noncomputable def jN (E:Env) (c:Code):Q7→List V→List Blk→Prop:=aCX c E
theorem dP:∀(c:Code) (E:Env),jN E c=gB E c
 |.skip,E=>rfl
 |.region id ops draw,E=>by
  funext Q σ H
  show uK ops draw E Q σ H=_
  unfold uK
  simp only [tH,xl]
  rfl
 |.seq x y,E=>by
  funext Q σ H
  show jN E x (fun e σ H=>match e with| .normal=>jN E y Q σ H| .exit i=>Q (.exit i) σ H| .ret=>Q .ret σ H) σ H=_
  rw [dP x E,dP y E];rfl
 |.cond c x y,E=>by
  funext Q σ H
  show Qo c (fun E=>jN E x) (fun E=>jN E y) E Q σ H=_
  rw [show(fun E=>jN E x)=fun E=>gB E x from funext fun E=>dP x E,show(fun E=>jN E y)=fun E=>gB E y from funext fun E=>dP y E];rfl
 |.block id c,E=>by
  funext Q σ H
  show jN E c _ σ H=_
  rw [dP c E];rfl
 |.loop c,E=>by
  funext Q σ H
  show Qn (fun E=>jN E c) E Q σ H=_
  rw [show(fun E=>jN E c)=fun E=>gB E c from funext fun E=>dP c E]
  show(bif br E.frz 1000001 then qe (gB E c) Q σ H∨Fq (gB E c) Q 64 σ H else qe (gB E c) Q σ H)=_
  rw [show Fq (gB E c) Q 64=Vz (gB E c) Q 64 from zu _ _ _];rfl
 |.rangeFunc f ps as c,E=>by
  funext Q σ H
  show It f ps (fun E=>jN E as) (fun E=>jN E c) E Q σ H=_
  rw [show(fun E=>jN E as)=fun E=>gB E as from funext fun E=>dP as E,show(fun E=>jN E c)=fun E=>gB E c from funext fun E=>dP c E];rfl
 |.exit id,E=>rfl
 |.scope c,E=>by
  funext Q σ H
  show jN E c Q σ H=_
  rw [dP c E];rfl
 |.label _,E=>rfl
 |.goto _,E=>rfl
 |.ret,E=>rfl
 |.refuse _,E=>rfl

def M5 (E:Env) (σ:List V) (H:List Blk) (r:ResultVar) (K:V→Prop):Prop:=
 match r with
 |.tmp t=>forceV (aL σ t).nb K
 |.cell p T=>(match aL σ p with
  |.ptr id z i o=>aload E H T (.ptr id z i o) fun v=>forceV v K
  |_=>False)

def Ha (E:Env) (σ:List V) (H:List Blk):List ResultVar→(List V→Prop)→Prop
 |[],K=>K []
 |r::l,K=>M5 E σ H r fun v=>Ha E σ H l fun vs=>K (v::vs)

def fk (E:Env) (fn:Func) (σ:List V) (H:List Blk) (K:V→Prop):Prop:=
 match fn.results.toList with
 |[r]=>M5 E σ H r K
 |rs=>Ha E σ H rs fun vs=>K (.tup vs)

def body (E:Env) (fn:Func) (args:List V) (H:List Blk) (R:V→List Blk→Prop):Prop:=
 match fn.body with
 |some c=>jN E c (fun e σ H=>match e with| .exit _=>False| .normal=>fk E fn σ H fun v=>R v H| .ret=>fk E fn σ H fun v=>R v H) (args++List.replicate (fn.ntmps-args.length) .undef) H
 |none=>False

mutual
def sO (n:Nat):V→V
 |.own t i=> .own t (n+i)
 |.slc t i o l=> .slc t (n+i) o l
 |.ptr i z j o=> .ptr (n+i) z j o
 |.mp t i=> .mp t (n+i)
 |.rb x=> .rb (sO n x)
 |.agg cs=> .agg (shL n cs)
 |.tup cs=> .tup (shL n cs)
 |.fn f cs=> .fn f (shL n cs)
 |v=>v
def shL (n:Nat):List V→List V
 |[]=> []
 |x::l=>sO n x::shL n l
end
def Ma (n:Nat):Blk→Blk
 |.cells cs=> .cells (shL n cs)
 |.mit (some mid) k s l=> .mit (some (n+mid)) k s l
 |b=>b
def kK (n:Nat):List Blk→List Blk
 |[]=> []
 |b::l=>Ma n b::kK n l

mutual
def V.fresh:V→Bool
 |.sl fr _ _=>fr
 |.rp _ _ _ _=>false
 |.rb _=>false
 |.dat fr t _=>fr||t.flat
 |.yld _=>false
 |.agg cs=>V.freshL cs
 |.tup cs=>V.freshL cs
 |.fn _ cs=>V.freshL cs
 |_=>true
def V.freshL:List V→Bool
 |[]=>true
 |x::l=>x.fresh&&V.freshL l
end
def Blk.fresh:Blk→Bool
 |.row fr t _=>fr||t.flat
 |.cells cs=>V.freshL cs
 |.imap fr t _=>fr||t.flat
 |.mit _ _ _ _=>true
 |.dead=>true
def nY:List Blk→Bool
 |[]=>true
 |b::l=>b.fresh&&nY l

def A0 (v:V) (K:V→Prop):Prop:=match v with
 |.agg cs=>gk cs fun cs=>K (.agg cs)
 |v=>A1 v K
def uC:List V→(List V→Prop)→Prop
 |[],K=>K []
 |x::l,K=>A0 x fun x=>uC l fun l=>K (x::l)
def nrm (v:V) (H:List Blk) (R:V→List Blk→Prop):Prop:=
 match v with
 |.tup vs=>uC vs fun vs=>jB H fun H=>R (.tup vs) H
 |v=>A0 v fun v=>jB H fun H=>R v H

def aS (ks:List PK) (spec:List V→Option (Prop×V×List Blk)):bI:=fun args H R=>
 asArgs H ks args fun ds=>match spec ds with
  |some (p,v,bs)=>p∧nrm (sO H.length v) (H++kK H.length bs) R
  |none=>False

def xX:V→List V
 |.tup vs=>vs
 |.agg cs=>cs
 |v=> [v]
def tV (v:V) (vs:List V):V:=
 match v with
 |.tup _=> .tup vs
 |.agg _=> .agg vs
 |_=>aL vs 0

def M4 (ms:List Mode) (v:V) (H:List Blk) (K:V→List Blk→Prop):Prop:=
 bif Nat.beq ms.length (xX v).length then cL ms (xX v) [] H fun vs H=>zq 0 ms vs H fun vs H=>K (tV v vs) H else False

def bL (E:Env) (fn:Func) (ms:List Mode) (ds:List V) (v:V) (bs:List Blk):Prop:=
 body E fn ds [] fun v' H'=>M4 ms v' H' fun v' H'=>(v'.fresh&&nY H')=true∧v'=v∧H'=bs
end
end Go.Proofs.YtogipicegdbhdaaDoor.Vc
