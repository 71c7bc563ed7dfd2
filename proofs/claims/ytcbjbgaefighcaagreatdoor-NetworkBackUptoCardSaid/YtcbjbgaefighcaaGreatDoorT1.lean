/- Part 1 of the proof. -/
import Derived.Test.YtcbjbgaefighcaaGreatDoorT0
import Derived.Laws.Cells
import Derived.Laws.CopyRow
import Derived.Lib.Strings
import Derived.WalkKit
import Derived.Laws.StructEq
import Derived.Maps.Own
set_option linter.all false
namespace Go.Ax
open Go
abbrev Qo:=Nat→AV
def Qo.put (env:Qo)(d:Nat)(v:AV):Qo:=fun t=>if t=d then v else env t
@[simp] theorem MZ (env:Qo) (d:Nat) (v:AV):env.put d v d=v:=by simp [Qo.put]
theorem WP (env:Qo){d t:Nat}(v:AV)(h:t≠d):env.put d v t=env t:=by simp [Qo.put,h]
def Ze:Value→AV
 | .string s=>.str s.data.toList
 |v=>.raw v
def Zi:Value→AV
 | .agg cs=>.agg (cs.toList.map Ze)
 |v=>Ze v
abbrev Ja:AV:=.raw undef
def Qs (G:Nat→Option (List AV))(env:Qo):Operand→AV
 | .tmp t=>env t
 | .const v=>Zi v
 | .global g=>match G g with
  |some cs=>.iptr cs
  |none=>.raw (.pointer (some ⟨g,0,none⟩))
 | .func f=>.func (.func f) [] []
def AV.cells:AV→List AV
 | .agg cs=>cs
 | .raw (.agg a)=>a.toList.map .raw
 |v=>[v]
def AV.one:AV→Bool
 | .agg _| .tuple _=>false
 | .raw v=>v.oneCell'
 |_=>true
inductive NK where
 |p|s|m|f|i
 deriving Inhabited,DecidableEq
inductive FK where
 |i|b|s
 deriving Inhabited,DecidableEq
inductive BK where
 |num|bool|nilc (k:NK) (lit:Bool)|struct (ks:List FK)
 deriving Inhabited,DecidableEq
inductive LK where
 |str|slice|map|arr (n:Nat)
 deriving Inhabited,DecidableEq
inductive LOp where
 |mv (x:Operand)
 |nchk (x:Operand)
 |pick (c a b:Operand)
 |bin (op:BinOp) (k:BK) (x y:Operand)
 |un (op:UnOp) (x:Operand)
 |conv(k:IntKind) (x:Operand)
 |same (x:Operand)
 |b2s (x:Operand)
 |fld (off:Nat) (x:Operand)
 |field (off sz:Nat) (agg:Bool) (x:Operand)
 |idxP (len sz:Nat) (x i:Operand)
 |idxS (sz:Nat) (x i:Operand)
 |idxV (len sz:Nat) (agg:Bool) (x i:Operand)
 |idxStr (x i:Operand)
 |load (sz:Nat) (agg:Bool) (a:Operand)
 |ext (x:Operand) (i:Nat)
 |build (zero:List Value) (parts:List (Nat×Nat×Operand))
 |mkI (t:TypeId) (x:Operand)
 |mkF (fn:Fn) (first cap:List Operand)
 |slStr (x:Operand) (lo hi:Option Operand)
 |slSl (sz:Nat) (x:Operand) (lo hi:Option Operand)
 |lenOf (k:LK) (x:Operand)
 |mm (isMax:Bool) (x y:Operand)
 |tas (asserted:TypeId) (zero:Value) (x:Operand)
 |look (fk:FK) (commaOk:Bool) (zero:Value) (m k:Operand)
 |alloc (el:TypeId) (zero:List Value)
 |box (el:TypeId) (x:Operand)
 |store (sz:Nat) (a v:Operand)
 |bslice (el sz len:Nat) (zero:List Value) (parts:List (Nat×Operand))
 |s2b (el:TypeId) (x:Operand)
 |app (el sz bytes:Nat) (s x:Operand)
 |call (f:Operand) (args:List Operand)
 |dfr (f:Operand) (args:List Operand)
 |pan (x:Operand)
 |mkMap
 |mset (fk:FK) (k v:Operand) (m:Operand)
 |rng (x:Operand)
 |nxt (x:Operand)
 |ent (x:Operand)
 deriving Inhabited
def Zb (op:BinOp)(k:IntKind)(a b:Int):Option Value:=
 match op with
 | .add=>some (.int k (k.wrap (a+b)))
 | .sub=>some (.int k (k.wrap (a - b)))
 | .mul=>some (.int k (k.wrap (a*b)))
 | .quo=>if b=0 then none else some (.int k (k.wrap (a.tdiv b)))
 | .rem=>if b=0 then none else some (.int k (a.tmod b))
 | .and=>some (.int k (k.wrap (BitVec.ofInt k.bits a&&& BitVec.ofInt k.bits b).toNat))
 | .or=>some (.int k (k.wrap (BitVec.ofInt k.bits a|||BitVec.ofInt k.bits b).toNat))
 | .xor=>some (.int k (k.wrap (BitVec.ofInt k.bits a^^^BitVec.ofInt k.bits b).toNat))
 | .eql=>some (.bool (a==b))
 | .neq=>some (.bool (a !=b))
 | .lss=>some (.bool (a<b))
 | .leq=>some (.bool (a≤b))
 | .gtr=>some (.bool (a>b))
 | .geq=>some (.bool (a≥b))
 |_=>none
def ZY (op:BinOp)(a b:List UInt8):Option AV:=
 match op with
 | .add=>if a.length+b.length≤9223372036854775807 then some (.str (a++b))else none
 | .eql=>some (.raw (.bool (a==b)))
 | .neq=>some (.raw (.bool (!(a==b))))
 | .lss=>some (.raw (.bool (Op.bytesLess a b)))
 | .leq=>some (.raw (.bool (Op.bytesLess a b||a==b)))
 | .gtr=>some (.raw (.bool !(Op.bytesLess a b||a==b)))
 | .geq=>some (.raw (.bool !(Op.bytesLess a b)))
 |_=>none
def H1:NK→AV→Option Bool
 | .p,.raw (.pointer none)=>some true
 | .s,.raw (.slice none _ _)=>some true
 | .m,.raw (.map none)=>some true
 | .f,.raw .nilFunc=>some true
 | .i,.raw .nilIface=>some true
 | .p,.ptr .. =>some false
 | .p,.iptr _=>some false
 | .s,.slice _ n _ tip=>if n=0∧tip=none then none else some false
 | .m,.map _=>some false
 | .f,.func .. =>some false
 | .i,.iface .. =>some false
 |_,_=>none
def Je:List FK→List AV→List AV→Option Bool
 |[],[],[]=>some true
 | .i::ks,.raw (.int k a)::x,.raw (.int k' b)::y=>if k=k' then(if a==b then Je ks x y else some false)else none
 | .b::ks,.raw (.bool a)::x,.raw (.bool b)::y=>if a==b then Je ks x y else some false
 | .s::ks,.str a::x,.str b::y=>if a==b then Je ks x y else some false
 |_,_,_=>none
def Tu (op:BinOp)(k:NK)(lit:Bool)(x y:AV):Option AV:=
 match H1 k x,H1 k y with
 |some a,some b=>
  if(a&&b&& !lit)||(!a&& !b)then none else
  match op with
  | .eql=>some (.raw (.bool (a&&b)))
  | .neq=>some (.raw (.bool !(a&&b)))
  |_=>none
 |_,_=>none
def Qf (op:BinOp)(k:BK)(x y:AV):Option AV:=
 match k with
 | .num=>match x,y with
  | .raw (.int k a),.raw (.int k' b)=>if k=k' then(Zb op k a b).map .raw else none
  | .str a,.str b=>ZY op a b
  |_,_=>none
 | .bool=>match x,y,op with
  | .raw (.bool a),.raw (.bool b),.eql=>some (.raw (.bool (a==b)))
  | .raw (.bool a),.raw (.bool b),.neq=>some (.raw (.bool !(a==b)))
  |_,_,_=>none
 | .nilc k lit=>Tu op k lit x y
 | .struct ks=>match x,y,op with
  | .agg a,.agg b,.eql=>(Je ks a b).map fun t=>.raw (.bool t)
  | .agg a,.agg b,.neq=>(Je ks a b).map fun t=>.raw (.bool !t)
  |_,_,_=>none
def J1 (op:UnOp)(x:AV):Option AV:=
 match op,x with
 | .neg,.raw (.int k n)=>some (.raw (.int k (k.wrap (0 - n))))
 | .not,.raw (.bool b)=>some (.raw (.bool !b))
 |_,_=>none
def Hz:List AV→List AV→Option (List AV)
 |cs,[]=>some cs
 |_::cs,v::vs=>(Hz cs vs).map (v::·)
 |[],_::_=>none
def I3:List AV→Nat→List AV→Option (List AV)
 |cs,0,vs=>Hz cs vs
 |c::cs,o+1,vs=>(I3 cs o vs).map (c::·)
 |[],_+1,_=>none
def VP:List AV→List (Nat×Nat×AV)→Option (List AV)
 |cs,[]=>some cs
 |cs,(off,size,v)::rest=>match v.cells.length==size with
  |true=>match I3 cs off v.cells with
   |some cs'=>VP cs' rest
   |none=>none
  |false=>none
theorem SA:∀(cs vs:List AV),Hz cs vs=if vs.length≤cs.length then some (vs++cs.drop vs.length)else none
 |cs,[]=>by simp [Hz]
 |[],v::vs=>by simp [Hz]
 |c::cs,v::vs=>by
  simp only[Hz,SA cs vs,cE,Nat.add_le_add_iff_right]
  split <;> simp
theorem SB:∀(cs:List AV) (o:Nat) (vs:List AV),vs≠[]→I3 cs o vs=if o+vs.length≤cs.length then some (cs.take o++vs++cs.drop (o+vs.length))else none
 |cs,0,vs,_=>by simp [I3,SA]
 |[],o+1,vs,_=>by simp [I3]
 |c::cs,o+1,vs,h=>by
  have e:o+1+vs.length≤cs.length+1↔o+vs.length≤cs.length:=by omega
  have e2:o+1+vs.length=(o+vs.length)+1:=by omega
  simp only[I3,SB cs o vs h,cE,e]
  split
  ·rw[e2];simp
  ·rfl
theorem R9:∀(cs:List AV) (o:Nat),I3 cs o []=if o≤cs.length then some cs else none
 |cs,0=>by simp [I3,Hz]
 |[],o+1=>by simp [I3]
 |c::cs,o+1=>by
  simp only[I3,R9 cs o,cE,Nat.add_le_add_iff_right]
  split <;> rfl
theorem Xv (cs:List AV)(off size:Nat)(v:AV)(rest:List (Nat×Nat×AV)):VP cs ((off,size,v)::rest)=
 if v.cells.length=size∧off+size≤cs.length then VP (cs.take off++v.cells++cs.drop (off+size)) rest else none:=by
 simp only[VP]
 by_cases hs:v.cells.length=size
 ·subst hs
  simp only[beq_self_eq_true,true_and]
  by_cases he:v.cells=[]
  ·rw[he,R9]
   simp only[cL,fS,cN,fY]
   by_cases hc:off≤cs.length
   ·rw[fC hc,fC hc]
   ·rw[fD hc,fD hc]
  ·rw[SB _ _ _ he]
   by_cases hc:off+v.cells.length≤cs.length
   ·rw[fC hc,fC hc]
   ·rw[fD hc,fD hc]
 ·have:(v.cells.length==size)=false:=by simpa using hs
  rw[this,fD (fun h=>hs h.1)]
def UN:List AV→Option (List UInt8)
 |[]=>some []
 | .raw (.int .u8 n)::r=>(UN r).map (UInt8.ofNat n.toNat::·)
 |_=>none
def Js:AV→Option Int
 | .raw (.int _ n)=>some n
 |_=>none
def J2 (d:Int):Option AV→Option Int
 |none=>some d
 |some v=>Js v
def Jn (s:List UInt8)(lo hi:Option AV):Option AV:=
 match J2 s.length hi,J2 0 lo with
 |some h,some l=>if 0≤l∧l≤h∧h≤s.length then some (.str ((s.drop l.toNat).take (h.toNat - l.toNat)))else none
 |_,_=>none
def Tc (sz n:Nat)(cs:List AV)(tip:Option Nat)(lo hi:Option AV):Option AV:=
 match J2 n hi,J2 0 lo with
 |some h,some l=>if 0≤l∧l≤h∧h≤n then some (.slice sz (h.toNat - l.toNat) ((cs.drop (l.toNat*sz)).take ((h.toNat - l.toNat)*sz)) (if h=n∧l<n then tip else none))else none
 |_,_=>none
def YS:FK→AV→Bool
 | .i,.raw (.int _ _)=>true
 | .s,.str _=>true
 |_,_=>false
def VN:AV→List (AV×AV)→Option (Option AV)
 |_,[]=>some none
 | .str a,(.str b,v)::r=>if a==b then some (some v)else VN (.str a) r
 | .raw (.int k a),(.raw (.int k' b),v)::r=>if k=k' then(if a==b then some (some v)else VN (.raw (.int k a)) r)else none
 |_,_=>none
def Jq (A:Q3)(sz:Nat)(agg:Bool):AV→Option AV
 | .ptr id o=>match A id with
  |some (.cells cs)=>if agg then(if o+sz≤cs.length then some (.agg ((cs.drop o).take sz))else none)else cs[o]?
  |_=>none
 | .iptr cs=>if agg then(if sz≤cs.length then some (.agg (cs.take sz))else none)else cs[0]?
 |_=>none
def Y4 (A:Q3)(k:LK)(x:AV):Option Int:=
 match k with
 | .str=>match x with
  | .str s=>some s.length
  |_=>none
 | .slice=>match x with
  | .slice _ n _ _=>some n
  | .raw (.slice none n _)=>some n
  |_=>none
 | .map=>match x with
  | .raw (.map none)=>some 0
  | .map id=>match A id with
   |some (.mp es)=>some es.length
   |_=>none
  |_=>none
 | .arr n=>some n
def Qw (G:Nat→Option (List AV))(env:Qo)(A:Q3):LOp→Option AV
 | .mv x=>some (Qs G env x)
 | .same x=>match Qs G env x with
  | .str s=>some (.str s)
  |_=>none
 | .nchk x=>match Qs G env x with
  | .ptr id o=>some (.ptr id o)
  | .iptr cs=>some (.iptr cs)
  | .func (.func f) a c=>some (.func (.func f) a c)
  |_=>none
 | .pick c a b=>match Qs G env c with
  | .raw (.bool t)=>some (if t then Qs G env a else Qs G env b)
  |_=>none
 | .bin op k x y=>Qf op k (Qs G env x) (Qs G env y)
 | .un op x=>J1 op (Qs G env x)
 | .conv k x=>match Qs G env x with
  | .raw (.int _ n)=>some (.raw (.int k (k.wrap n)))
  |_=>none
 | .b2s x=>match Qs G env x with
  | .raw (.slice none _ _)=>some (.str [])
  | .slice 1 n cs _=>if cs.length=n then(UN cs).map .str else none
  |_=>none
 | .fld off x=>match Qs G env x with
  | .ptr id o=>some (.ptr id (o+off))
  | .iptr cs=>some (.iptr (cs.drop off))
  |_=>none
 | .field off sz agg x=>match Qs G env x with
  | .agg cs=>if agg then some (.agg ((cs.drop off).take sz))else cs[off]?
  |_=>none
 | .idxP len sz x i=>match Qs G env x,Qs G env i with
  | .ptr id o,.raw (.int _ n)=>if 0≤n∧n<len then some (.ptr id (o+n.toNat*sz))else none
  | .iptr cs,.raw (.int _ n)=>if 0≤n∧n<len then some (.iptr (cs.drop (n.toNat*sz)))else none
  |_,_=>none
 | .idxS sz x i=>match Qs G env x,Qs G env i with
  | .slice sz' len cs _,.raw (.int _ n)=>if 0≤n∧n<len∧sz'=sz then some (.iptr (cs.drop (n.toNat*sz)))else none
  |_,_=>none
 | .idxV len sz agg x i=>match Qs G env x,Qs G env i with
  | .agg cs,.raw (.int _ n)=>if 0≤n∧n<len then(if agg then some (.agg ((cs.drop (n.toNat*sz)).take sz))else cs[n.toNat*sz]?)else none
  |_,_=>none
 | .idxStr x i=>match Qs G env x,Qs G env i with
  | .str s,.raw (.int _ n)=>if 0≤n then(s[n.toNat]?).map fun b=>.raw (.int .u8 b.toNat)else none
  |_,_=>none
 | .load sz agg a=>Jq A sz agg (Qs G env a)
 | .ext x i=>match Qs G env x with
  | .tuple vs=>vs[i]?
  |_=>none
 | .build zero parts=>(VP (zero.map Ze) (parts.map fun(o,s,x)=>(o,s,Qs G env x))).map .agg
 | .mkI t x=>some (.iface t (Qs G env x))
 | .mkF fn first cap=>some (.func fn (first.map (Qs G env)) (cap.map (Qs G env)))
 | .slStr x lo hi=>match Qs G env x with
  | .str s=>Jn s (lo.map (Qs G env)) (hi.map (Qs G env))
  |_=>none
 | .slSl sz x lo hi=>match Qs G env x with
  | .slice sz' n cs tip=>if sz'=sz then Tc sz n cs tip (lo.map (Qs G env)) (hi.map (Qs G env))else none
  |_=>none
 | .lenOf k x=>(Y4 A k (Qs G env x)).map fun n=>.raw (.int .i64 n)
 | .mm isMax x y=>match Qs G env x,Qs G env y with
  | .raw (.int k a),.raw (.int k' b)=>if k=k' then some (.raw (.int k (if isMax then(if a<b then b else a)else(if b<a then b else a))))else none
  |_,_=>none
 | .tas asserted zero x=>match Qs G env x with
  | .raw .nilIface=>some (.tuple [Zi zero,.raw (.bool false)])
  | .iface t v=>if t=asserted then some (.tuple [v,.raw (.bool true)])else some (.tuple [Zi zero,.raw (.bool false)])
  |_=>none
 | .look fk ok zero m k=>if YS fk (Qs G env k)then match Qs G env m with
  | .raw (.map none)=>some (if ok then .tuple [Zi zero,.raw (.bool false)]else Zi zero)
  | .map id=>match A id with
   |some (.mp es)=>match VN (Qs G env k) es with
    |some (some v)=>some (if ok then .tuple [v,.raw (.bool true)]else v)
    |some none=>some (if ok then .tuple [Zi zero,.raw (.bool false)]else Zi zero)
    |none=>none
   |_=>none
  |_=>none
  else none
 |_=>none
def Kh (P:Program)(t:TypeId):Option (Nat×Bool):=
 match P.underlying t,P.info? t with
 |some (.struct _),some i|some (.array _ _),some i=>some (i.size,true)
 |some _,some i=>if i.size=1 then some (1,false)else none
 |_,_=>none
def K5 (P:Program)(t:TypeId):Option FK:=
 match P.underlying t with
 |some .bool=>some .b
 |some (.int _)=>some .i
 |some .string=>some .s
 |_=>none
def Wn (P:Program):List Field→Nat→Option (List FK)
 |[],_=>some []
 |f::fs,i=>if f.name != "_" &&f.offset==i then
  match K5 P f.type,Wn P fs (i+1)with
  |some k,some ks=>some (k::ks)
  |_,_=>none
  else none
def WK (P:Program)(t:TypeId)(fs:Array Field):Option (List FK):=
 if P.eqGuardType P.depth t||P.stoodInHeld t then none else Wn P fs.toList 0
def UB:Operand→Bool
 | .const _=>true
 |_=>false
def GT (P:Program)(t:TypeId)(x y:Operand):Option BK:=
 match P.underlying t with
 |some (.int _)|some .string=>some .num
 |some .bool=>some .bool
 |some (.pointer _)=>some (.nilc .p true)
 |some (.slice _)=>some (.nilc .s true)
 |some (.map _ _)=>some (.nilc .m true)
 |some (.func _ _ _)=>some (.nilc .f true)
 |some (.interface ms)=>some (.nilc .i (ms.isEmpty||UB x||UB y))
 |some (.struct fs)=>(WK P t fs).map .struct
 |_=>none
def VF (P:Program)(t:TypeId):Option Value:=(P.info? t).bind (·.zero)
def Ot (P:Program)(o:Oper):Option LOp:=
 match o.op with
 | .move x| .assign x=>some (.mv x)
 | .nilCheck x=>some (.nchk x)
 | .pick c a b=>some (.pick c a b)
 | .binOp op t x y _=>(GT P t x y).map fun k=>.bin op k x y
 | .unOp op _ x=>some (.un op x)
 | .convert s d x=>match P.underlying s,P.underlying d with
  |some (.int _),some (.int k)=>some (.conv k x)
  |some .string,some .string=>some (.same x)
  |some (.slice e),some .string=>match P.underlying e with
   |some (.int .u8)=>some (.b2s x)
   |_=>none
  |_,_=>none
 | .fieldAddr s x f=>match P.underlying s with
  |some (.struct fs)=>match fs[f]? with
   |some fl=>if P.cellsOf fl.type=0 then none else if(P.info? fl.type).isSome then some (.fld fl.offset x)else none
   |none=>none
  |_=>none
 | .field s x f=>match P.underlying s with
  |some (.struct fs)=>match fs[f]? with
   |some fl=>(Kh P fl.type).map fun(sz,a)=>.field fl.offset sz a x
   |none=>none
  |_=>none
 | .indexAddr t x i=>match P.underlying t with
  |some (.array n e)=>if n≤1 then none else match P.info? e with
   |some j=>some (.idxP n j.size x i)
   |none=>none
  |some (.slice e)=>match P.info? e with
   |some j=>some (.idxS j.size x i)
   |none=>none
  |_=>none
 | .index t x i=>match P.underlying t with
  |some (.array n e)=>(Kh P e).map fun(sz,a)=>.idxV n sz a x i
  |some .string=>some (.idxStr x i)
  |_=>none
 | .load t a=>(Kh P t).map fun(sz,g)=>.load sz g a
 | .extract x i=>some (.ext x i)
 | .build t parts=>match P.underlying t,VF P t with
  |some (.struct fs),some z=>do
   let ps←parts.toList.mapM fun(i,x)=>do
    let f←fs[i]?
    some (f.offset,P.cellsOf f.type,x)
   if fs.toList.all (fun f=>(P.info? f.type).isSome)then some (.build z.cells.toList ps)else none
  |some (.array _ e),some z=>if(P.info? e).isSome then some (.build z.cells.toList (parts.toList.map fun(i,x)=>(i*P.cellsOf e,P.cellsOf e,x)))else none
  |_,_=>none
 | .makeInterface t x=>match P.underlying t with
  |some (.interface _)|none=>none
  |_=>some (.mkI t x)
 | .makeFunc fn first cap=>some (.mkF fn first.toList cap.toList)
 | .slice t x lo hi none=>match P.underlying t with
  |some .string=>some (.slStr x lo hi)
  |some (.slice e)=>match P.info? e with
   |some j=>some (.slSl j.size x lo hi)
   |none=>none
  |_=>none
 | .typeAssert x _ asserted true=>match P.underlying asserted,VF P asserted with
  |some (.interface _),_|none,_|_,none=>none
  |_,some z=>some (.tas asserted z x)
 | .lookup t m k ok=>match P.underlying t with
  |some (.map kt e)=>match K5 P kt,VF P e with
   |some fk,some z=>some (.look fk ok z m k)
   |_,_=>none
  |_=>none
 | .call {callee:=.builtin .len,args,argTypes}=>match args.toList,(argTypes[0]?).bind P.underlying with
  |[x],some .string=>some (.lenOf .str x)
  |[x],some (.slice _)=>some (.lenOf .slice x)
  |[x],some (.map _ _)=>some (.lenOf .map x)
  |[x],some (.array n _)=>some (.lenOf (.arr n) x)
  |_,_=>none
 | .call {callee:=.builtin .max,args,..}=>match args.toList with
  |[x,y]=>some (.mm true x y)
  |_=>none
 | .call {callee:=.builtin .min,args,..}=>match args.toList with
  |[x,y]=>some (.mm false x y)
  |_=>none
 |_=>none
def YX (κ:Kn)(env:Qo)(tmps:Array Value):Prop:=∀t,Qc κ (env t) (tmps.getD t undef)
theorem YX.mono {κ κ':Kn}(hl:κ.le κ'){env:Qo}{tmps:Array Value}(h:YX κ env tmps):YX κ' env tmps:=fun t=>Qc.mono hl _ _ (h t)
theorem YX.put {κ:Kn}{env:Qo}{tmps:Array Value}(h:YX κ env tmps){d:Nat}(hd:d<tmps.size){v:AV}{u:Value}(hv:Qc κ v u):YX κ (env.put d v) (tmps.setIfInBounds d u):=fun t=>by
 by_cases e:t=d
 ·subst e
  rw[MZ]
  simpa[Array.getD,hd]using hv
 ·rw[WP _ _ e]
  have:=h t
  simp only[Array.getD_eq_getD_getElem?,Array.getElem?_setIfInBounds]at this⊢
  rw[fD (fun x=>e x.symm)]
  exact this
theorem OI (κ:Kn)(v:Value):Qc κ (Ze v) v:=by
 cases v <;> simp [Ze,Qc]
theorem Wm (κ:Kn):∀l:List Value,Qi κ (l.map Ze) l
 |[]=>by simp [Qi]
 |v::l=>by simp only[cJ,Qi];exact⟨v,l,rfl,OI κ v,Wm κ l⟩
theorem XK (κ:Kn)(v:Value):Qc κ (Zi v) v:=by
 unfold Zi
 split
 ·rename_i cs
  simp only[Qc]
  exact⟨cs,rfl,Wm κ _⟩
 ·exact OI κ v
section
variable {P:Program}{G:Nat→Option (List AV)}{κ:Kn}{A:Q3}{w:World}
theorem QI (h:Rel G κ A w){env:Qo}{a:Act}(he:YX κ env a.tmps)(x:Operand):Qc κ (Qs G env x) (a.eval x):=by
 cases x with
 |tmp t=>exact he t
 |const v=>exact XK κ v
 |global g=>
  simp only[Qs,Act.eval]
  cases hg:G g with
  |none=>simp [Qc]
  |some cs=>simp only[Qc];exact⟨g,0,rfl,h.glob g cs hg⟩
 |func f=>simp only[Qs,Act.eval,Qc];exact⟨#[],#[],rfl,by simp [Qi],by simp [Qi]⟩
theorem IM (h:Rel G κ A w){env:Qo}{a:Act}(he:YX κ env a.tmps):∀xs:List Operand,Qi κ (xs.map (Qs G env)) (xs.map a.eval)
 |[]=>by simp [Qi]
 |x::xs=>by simp only[cJ,Qi];exact⟨_,_,rfl,QI h he x,IM h he xs⟩
theorem TU (κ:Kn):∀l:List Value,Qi κ (l.map .raw) l
 |[]=>by simp [Qi]
 |v::l=>by simp only[cJ,Qi];exact⟨v,l,rfl,by simp [Qc],TU κ l⟩
theorem Yk {c:AV}{u:Value}(h:Qc κ c u):Qi κ [c] [u]:=by simp only[Qi];exact⟨_,_,rfl,h,rfl⟩
theorem OJ {v:AV}{u:Value}(h:Qc κ v u):Qi κ v.cells u.cells.toList:=by
 cases v with
 |raw x=>
  have h0:=h
  simp only[Qc]at h0;subst h0
  cases u with
  |agg a=>simpa[AV.cells,Value.cells]using TU κ a.toList
  |_=>exact Yk h
 |agg cs=>
  simp only[Qc]at h
  obtain⟨a,rfl,h2⟩:=h
  simpa[AV.cells,Value.cells]using h2
 |str s=>have h0:=h;simp only[Qc]at h0;subst h0;exact Yk h
 |ptr id off=>have h0:=h;simp only[Qc]at h0;obtain⟨b,e,E,h1,rfl⟩:=h0;exact Yk h
 |iptr cs=>have h0:=h;simp only[Qc]at h0;obtain⟨b,o,rfl,h1⟩:=h0;exact Yk h
 |slice sz n cs tip=>
  have h0:=h
  simp only[Qc]at h0
  rcases h0 with⟨_,_,_,_,rfl⟩|⟨b,o,cap,rfl,h1⟩ <;> exact Yk h
 |tuple vs=>have h0:=h;simp only[Qc]at h0;obtain⟨a,rfl,h1⟩:=h0;exact Yk h
 |iface t x=>have h0:=h;simp only[Qc]at h0;obtain⟨y,rfl,h1⟩:=h0;exact Yk h
 |func fn f c=>have h0:=h;simp only[Qc]at h0;obtain⟨fa,ca,rfl,h1⟩:=h0;exact Yk h
 |map id=>have h0:=h;simp only[Qc]at h0;obtain⟨b,e,E,h1,rfl⟩:=h0;exact Yk h
theorem Lp {op:BinOp}{t:TypeId}{k:IntKind}{x y:Int}{v:Value}(h:Zb op k x y=some v):(binOp op t (.int k x) (.int k y)).run P w=.ok v w:=by
 cases op <;> simp only[Zb]at h <;> first
  |(simp only[cA]at h;subst h;simp [binOp,Op.intArith,Op.intCmp,Op.intBits];done)
  |(split at h <;> simp only[cA,reduceCtorEq]at h;subst h;simp [binOp,Op.intDiv, *];done)
  |(simp at h)
theorem yC (l:List UInt8):(⟨l.toArray⟩:ByteArray).toList=l:=by simp
theorem GF (a b:List UInt8):((⟨a.toArray⟩:ByteArray)==⟨b.toArray⟩)=(a==b):=by
 have h:((⟨a.toArray⟩:ByteArray)==⟨b.toArray⟩)=(a.toArray==b.toArray):=rfl
 rw[h]
 simp
theorem Lg {op:BinOp}{t:TypeId}{x y:List UInt8}{v:AV}(h:ZY op x y=some v):∃u,(binOp op t (.string ⟨x.toArray⟩) (.string ⟨y.toArray⟩)).run P w=.ok u w∧Qc κ v u:=by
 cases op <;> simp only[ZY]at h <;> first
  |(simp only[cA]at h;subst h;simp [binOp,Op.stringOp,Qc];done)
  |(split at h
    ·rename_i hle
     simp only[cA]at h;subst h
     refine⟨.string (⟨x.toArray⟩++⟨y.toArray⟩),?_,?_⟩
     ·have:¬(((x.length+y.length:Nat):Int)>IntKind.i64.max):=by simp [IntKind.max,IntKind.bits,IntKind.signed];omega
      simp only[binOp,Op.stringOp]
      rw[fD]
      ·simp
      ·simpa[ByteArray.size]using this
     ·simp only[Qc,Value.string.injEq]
      apply ByteArray.ext
      simp
    ·simp at h)
  |(simp at h)
theorem Lw {t:TypeId}(ht:P.underlying t=some .bool)(x y:Bool):
 (binOp .eql t (.bool x) (.bool y)).run P w=.ok (.bool (x==y)) w∧(binOp .neq t (.bool x) (.bool y)).run P w=.ok (.bool (!(x==y))) w:=by
 have h:∀d:Nat,(Op.equalIn (d+1) t (.bool x) (.bool y)).run P w=.ok (x==y) w:=fun d=>by
  simp [Op.equalIn,run_underlying ht]
 have h1:=h 9999
 constructor
 ·simp only[binOp]
  simp [Op.equal,Op.maxDepth,h1]
 ·simp only[binOp]
  simp [Op.equal,Op.maxDepth,h1]
def Td (u:Value)(t:Bool):NK→Prop
 | .p=>∃o,u=.pointer o∧o.isNone=t
 | .s=>∃o n c,u=.slice o n c∧o.isNone=t
 | .m=>∃o,u=.map o∧o.isNone=t
 | .f=>(t=true∧u=.nilFunc)∨(t=false∧∃a b c,u=.func a b c)
 | .i=>(t=true∧u=.nilIface)∨(t=false∧∃a b,u=.iface a b)
theorem KZ {k:NK}{x:AV}{u:Value}{t:Bool}(hx:H1 k x=some t)(hr:Qc κ x u):Td u t k:=by
 unfold H1 at hx
 split at hx <;> (try split at hx) <;> simp only[cA,reduceCtorEq]at hx <;> subst hx <;> simp only[Qc]at hr
 ·subst hr;exact⟨none,rfl,rfl⟩
 ·subst hr;exact⟨none,_,_,rfl,rfl⟩
 ·subst hr;exact⟨none,rfl,rfl⟩
 ·subst hr;exact .inl ⟨rfl,rfl⟩
 ·subst hr;exact .inl ⟨rfl,rfl⟩
 ·obtain⟨b,e,E,_,rfl⟩:=hr;exact⟨_,rfl,rfl⟩
 ·obtain⟨b,o,rfl,_⟩:=hr;exact⟨_,rfl,rfl⟩
 ·rename_i hc
  rcases hr with⟨h1,h2,_,_⟩|⟨b,o,cap,rfl,_⟩
  ·exact absurd ⟨h2,h1⟩ hc
  ·exact⟨_,_,_,rfl,rfl⟩
 ·obtain⟨b,e,E,_,rfl⟩:=hr;exact⟨_,rfl,rfl⟩
 ·obtain⟨fa,ca,rfl,_⟩:=hr;exact .inr ⟨rfl,_,_,_,rfl⟩
 ·obtain⟨x,rfl,_⟩:=hr;exact .inr ⟨rfl,_,_,rfl⟩
def NK.desc:NK→TypeDesc→Prop
 | .p,d=>∃e,d=.pointer e
 | .s,d=>∃e,d=.slice e
 | .m,d=>∃a b,d=.map a b
 | .f,d=>∃a b c,d=.func a b c
 | .i,d=>∃ms,d=.interface ms
theorem Gn {k:NK}{d:TypeDesc}{t:TypeId}(hk:k.desc d)(ht:P.underlying t=some d){x y:AV}{u v:Value}{a b:Bool}(hx:H1 k x=some a)(hy:H1 k y=some b)(hu:Qc κ x u)(hv:Qc κ y v)(hab:(!a&& !b)=false):
 (Op.equal t u v).run P w=.ok (a&&b) w:=by
 have key:∀n:Nat,(Op.equalIn (n+1) t u v).run P w=.ok (a&&b) w:=fun n=>by
  have h1:=KZ hx hu
  have h2:=KZ hy hv
  cases k <;> simp only[NK.desc]at hk h1 h2
  ·obtain⟨e,rfl⟩:=hk
   obtain⟨o1,rfl,rfl⟩:=h1
   obtain⟨o2,rfl,rfl⟩:=h2
   cases o1 <;> cases o2 <;> simp [Op.equalIn,run_underlying ht]at hab⊢
  ·obtain⟨e,rfl⟩:=hk
   obtain⟨o1,n1,c1,rfl,rfl⟩:=h1
   obtain⟨o2,n2,c2,rfl,rfl⟩:=h2
   cases o1 <;> cases o2 <;> simp [Op.equalIn,run_underlying ht]at hab⊢
  ·obtain⟨e,e',rfl⟩:=hk
   obtain⟨o1,rfl,rfl⟩:=h1
   obtain⟨o2,rfl,rfl⟩:=h2
   cases o1 <;> cases o2 <;> simp [Op.equalIn,run_underlying ht]at hab⊢
  ·obtain⟨e,e',e'',rfl⟩:=hk
   rcases h1 with⟨rfl,rfl⟩|⟨rfl,x1,x2,x3,rfl⟩ <;> rcases h2 with⟨rfl,rfl⟩|⟨rfl,y1,y2,y3,rfl⟩ <;> simp [Op.equalIn,run_underlying ht]at hab⊢
  ·obtain⟨ms,rfl⟩:=hk
   rcases h1 with⟨rfl,rfl⟩|⟨rfl,x1,x2,rfl⟩ <;> rcases h2 with⟨rfl,rfl⟩|⟨rfl,y1,y2,rfl⟩ <;> simp [Op.equalIn,run_underlying ht]at hab⊢
 have:=key 9999
 simp only[Op.equal,Op.maxDepth]
 exact this
def LW:Value→Bool
 | .int .. | .float .. | .complex .. | .string _=>false
 |_=>true
theorem Wq {t:TypeId}{u v:Value}(hn:LW u=true):
 binOp .eql t u v=(do pure (.bool (←Op.equal t u v)))∧binOp .neq t u v=(do pure (.bool (!(←Op.equal t u v)))):=by
 cases u <;> simp [LW]at hn <;> cases v <;> exact⟨rfl,rfl⟩
theorem Yr {op:BinOp}{t:TypeId}{x y:Operand}{u v:Value}
 (h:(op≠ .eql∧op≠ .neq)∨(¬(u=.nilIface∧v=.nilIface)∧¬((∃a,u=.agg a)∧∃b,v=.agg b))∨((∃a,u=.agg a)∧(∃b,v=.agg b)∧P.eqGuardType P.depth t=false)∨
  (u=.nilIface∧v=.nilIface∧∃ms,P.underlying t=some (.interface ms)∧(ms.isEmpty||UB x||UB y)=true)):(eqGuard op t x y u v).run P w=.ok () w:=by
 unfold eqGuard
 by_cases ho:op=.eql∨op=.neq
 ·rcases h with h|h|⟨⟨a,rfl⟩,⟨b,rfl⟩,h⟩|⟨rfl,rfl,ms,ht,h⟩
  ·rcases ho with ho|ho
   ·exact absurd ho h.1
   ·exact absurd ho h.2
  ·obtain⟨h1,h2⟩:=h
   cases u <;> cases v <;> first
    |exact absurd ⟨rfl,rfl⟩ h1
    |exact absurd ⟨⟨_,rfl⟩,_,rfl⟩ h2
    |(rcases ho with rfl|rfl <;> rfl)
  ·rcases ho with rfl|rfl <;> simp [h]
  ·have key:∀n:Nat,(Op.eqGuardIn (n+1) t .nilIface .nilIface).run P w=.ok (!ms.isEmpty) w:=fun n=>by simp [Op.eqGuardIn,run_underlying ht]
   have k1:(Op.eqGuardIn Op.maxDepth t .nilIface .nilIface).run P w=.ok (!ms.isEmpty) w:=key 9999
   cases x <;> cases y <;> rcases ho with rfl|rfl <;> simp [UB]at h⊢ <;> simp [k1,h]
 ·cases op <;> simp at ho⊢ <;> simp
theorem Um {t:TypeId}{d:TypeDesc}(h:P.underlying t=some d):(isAgg t).run P w=.ok (match d with| .struct _| .array _ _=>true|_=>false) w:=by
 unfold isAgg
 simp only[Sem.run_bind,run_underlying h,Result.andThen_ok]
 cases d <;> rfl
theorem Lk {t:TypeId}{k:FK}(hb:K5 P t=some k){xs:Array Value}{i:Nat}{v:Value}(hv:xs[i]? =some v):(part t xs i).run P w=.ok v w:=by
 unfold K5 at hb
 unfold part
 split at hb
 ·rename_i h;simp [Um h,hv]
 ·rename_i h;simp [Um h,hv]
 ·rename_i h;simp [Um h,hv]
 ·simp at hb
theorem OX (n:Nat)(xs ys:Array Value):∀(fs:List Field) (k:Nat) (ks:List FK) (cs ds:List AV) (r:Bool),Wn P fs k=some ks→
 Qi κ cs (xs.toList.drop k)→Qi κ ds (ys.toList.drop k)→Je ks cs ds=some r→(Op.eqFields (n+1) xs ys fs).run P w=.ok r w
 |[],k,ks,cs,ds,r,hk,_,_,he=>by
  simp only[Wn,cA]at hk
  subst hk
  cases cs <;> cases ds <;> simp [Je]at he
  subst he
  simp [Op.eqFields]
 |f::fs,k,ks,cs,ds,r,hk,hc,hd,he=>by
  simp only[Wn]at hk
  split at hk
  ·rename_i hf
   simp only[bne_iff_ne,cD,beq_iff_eq]at hf
   obtain⟨hn,ho⟩:=hf
   split at hk
   ·rename_i q qs hq hqs
    simp only[cA]at hk
    subst hk
    cases cs with
    |nil=>cases q <;> simp [Je]at he
    |cons c cs=>
     cases ds with
     |nil=>cases q <;> cases c <;> simp [Je]at he
     |cons d ds=>
      simp only[Qi]at hc hd
      obtain⟨u,us,hu1,hu2,hu3⟩:=hc
      obtain⟨v,vs,hv1,hv2,hv3⟩:=hd
      have hxu:xs[k]? =some u:=by
       have:=congrArg List.head? hu1
       simpa[List.head?_drop]using this
      have hyv:ys[k]? =some v:=by
       have:=congrArg List.head? hv1
       simpa[List.head?_drop]using this
      have hxs:us=xs.toList.drop (k+1):=by
       have:=congrArg List.tail hu1
       simpa using this.symm
      have hys:vs=ys.toList.drop (k+1):=by
       have:=congrArg List.tail hv1
       simpa using this.symm
      subst hxs hys
      have hpx:=Lk (P:=P) (w:=w) hq (ho▸hxu)
      have hpy:=Lk (P:=P) (w:=w) hq (ho▸hyv)
      have hcell:∃t:Bool,(Op.equalIn (n+1) f.type u v).run P w=.ok t w∧((t=true∧Je qs cs ds=some r)∨(t=false∧r=false)):=by
       unfold K5 at hq
       split at hq <;> simp only[cA,reduceCtorEq]at hq <;> subst hq <;> rename_i ht
       ·cases c <;> try simp [Je]at he
        rename_i c;cases c <;> try simp [Je]at he
        rename_i a;cases d <;> try simp [Je]at he
        rename_i d;cases d <;> try simp [Je]at he
        rename_i b
        simp only[Qc]at hu2 hv2;subst hu2 hv2
        refine⟨a==b,by simp [Op.equalIn,run_underlying ht],?_⟩
        split at he
        ·rename_i h;exact .inl ⟨by simpa using h,he⟩
        ·rename_i h;simp at he;exact .inr ⟨by simpa using h,he⟩
       ·cases c <;> try simp [Je]at he
        rename_i c;cases c <;> try simp [Je]at he
        rename_i ka a;cases d <;> try simp [Je]at he
        rename_i d;cases d <;> try simp [Je]at he
        rename_i kb b
        simp only[Qc]at hu2 hv2;subst hu2 hv2
        obtain⟨hkk,he⟩:=he
        refine⟨a==b,by simp [Op.equalIn,run_underlying ht,hkk],?_⟩
        split at he
        ·rename_i h;exact .inl ⟨by simpa using h,he⟩
        ·rename_i h;simp at he;exact .inr ⟨by simpa using h,he⟩
       ·cases c <;> try simp [Je]at he
        cases d <;> try simp [Je]at he
        rename_i a b
        simp only[Qc]at hu2 hv2;subst hu2 hv2
        refine⟨a==b,by rw[run_equalIn_string _ _ _ _ _ ht];simp,?_⟩
        split at he
        ·rename_i h;exact .inl ⟨by simpa using h,he⟩
        ·rename_i h;simp at he;exact .inr ⟨by simpa using h,he⟩
      obtain⟨t,ht1,ht2⟩:=hcell
      simp only[Op.eqFields,fC hn,Sem.run_bind,hpx,hpy,ht1,Result.andThen_ok]
      rcases ht2 with⟨rfl,he⟩|⟨rfl,rfl⟩
      ·simpa using OX n xs ys fs (k+1) qs cs ds r hqs hu3 hv3 he
      ·simp
   ·simp at hk
  ·simp at hk
theorem OS {t:TypeId}{fs:Array Field}{ks:List FK}(ht:P.underlying t=some (.struct fs))(hp:WK P t fs=some ks){cs ds:List AV}{xs ys:Array Value}{r:Bool}
 (hc:Qi κ cs xs.toList)(hd:Qi κ ds ys.toList)(he:Je ks cs ds=some r):(Op.equal t (.agg xs) (.agg ys)).run P w=.ok r w:=by
 unfold WK at hp
 split at hp
 ·simp at hp
 ·rename_i hg
  simp only[lA,not_or,cP]at hg
  have hf:P.fieldsOf t=fs:=by simp [Program.fieldsOf,ht]
  have h1:=run_equalIn_struct (P:=P) w 9999 t xs ys (by rw[hf];exact ht) hg.2
  rw[hf,OX (κ:=κ) 9998 xs ys fs.toList 0 ks cs ds r hp (by simpa using hc) (by simpa using hd) he]at h1
  simp only[Op.equal,Op.maxDepth]
  exact h1
theorem WO {t:TypeId}{sz:Nat}{g:Bool}(h:Kh P t=some (sz,g)):(isAgg t).run P w=.ok g w∧(sizeOf t).run P w=.ok sz w∧(g=false→sz=1):=by
 unfold Kh at h
 split at h
 ·rename_i i hu hi
  simp only[cA,cW]at h
  obtain⟨rfl,rfl⟩:=h
  exact⟨by rw[Um hu],by simp [sizeOf,typeInfo,hi],by simp⟩
 ·rename_i n e i hu hi
  simp only[cA,cW]at h
  obtain⟨rfl,rfl⟩:=h
  exact⟨by rw[Um hu],by simp [sizeOf,typeInfo,hi],by simp⟩
 ·rename_i d i hs ha hu hi
  split at h
  ·rename_i h1
   simp only[cA,cW]at h
   obtain⟨rfl,rfl⟩:=h
   refine⟨?_,by simp [sizeOf,typeInfo,hi,h1],by simp⟩
   rw[Um hu]
   cases d <;> first|rfl|exact absurd rfl (hs _ _ ‹_›)|exact absurd rfl (ha _ _ _ ‹_›)|skip
   all_goals first|exact(hs _ rfl).elim|exact(ha _ _ rfl).elim|skip
  ·simp at h
 ·simp at h
theorem Xw {t:TypeId}{sz:Nat}{g:Bool}(ht:Kh P t=some (sz,g)){b o:Nat}{us:List Value}(hlen:us.length=sz)(hc:∀i v,us[i]? =some v→w.cell? ⟨b,o+i,none⟩=some v):
 (loadVar t ⟨b,o,none⟩).run P w=.ok (if g then .agg us.toArray else us.getD 0 undef) w:=by
 obtain⟨h1,h2,h3⟩:=WO (P:=P) (w:=w) ht
 unfold loadVar
 simp only[Sem.run_bind,h1,Result.andThen_ok]
 cases g with
 |true=>
  simp only[if_true,Sem.run_bind,h2,Result.andThen_ok,←hlen]
  rw[run_loadCells_list]
  ·simp
  ·intro j v hv
   have:=hc j v hv
   unfold Addr.add
   split
   ·rename_i h0;subst h0;simpa using this
   ·exact this
 |false=>
  have h4:=h3 rfl
  rw[h4]at hlen
  match us,hlen with
  |[u],_=>
   have:=hc 0 u rfl
   simp only[fS]at this
   simp [this]
end
section
variable {P:Program}{G:Nat→Option (List AV)}{κ:Kn}{A:Q3}{w:World}
theorem yB {cs:List AV}{us:List Value}(h:Qi κ cs us){i:Nat}{c:AV}(hc:cs[i]? =some c):∃u,us[i]? =some u∧Qc κ c u:=Qi.get h i c hc
theorem Jy {v:Value}:Qc κ (.raw v) v:=by simp [Qc]
theorem LO {s:List UInt8}:Qc κ (.str s) (.string ⟨s.toArray⟩):=by simp [Qc]
theorem Xl {t:TypeId}{nk:NK}{lit:Bool}{d:TypeDesc}{op:BinOp}{x y:Operand}{a b v:AV}{u u':Value}(hd:nk.desc d)(ht:P.underlying t=some d)(hlit:nk=.i→∃ms,d=.interface ms∧lit=(ms.isEmpty||UB x||UB y))
 (hu:Qc κ a u)(hu':Qc κ b u')(hv:Tu op nk lit a b=some v):∃r,(do eqGuard op t x y u u';binOp op t u u':Sem Value).run P w=.ok r w∧Qc κ v r:=by
 simp only[Tu]at hv
 split at hv
 ·rename_i p q hp hq
  split at hv
  ·simp at hv
  ·rename_i hc
   have hab:(!p&& !q)=false:=by cases p <;> cases q <;> simp_all
   have hE:=Gn (P:=P) (w:=w) (t:=t) hd ht hp hq hu hu' hab
   have q1:=KZ hp hu
   have q2:=KZ hq hu'
   have hsh:LW u=true:=by
    cases nk <;> simp only[Td]at q1
    ·obtain⟨_,rfl,_⟩:=q1;rfl
    ·obtain⟨_,_,_,rfl,_⟩:=q1;rfl
    ·obtain⟨_,rfl,_⟩:=q1;rfl
    ·rcases q1 with⟨_,rfl⟩|⟨_,_,_,_,rfl⟩ <;> rfl
    ·rcases q1 with⟨_,rfl⟩|⟨_,_,_,rfl⟩ <;> rfl
   have hG:(eqGuard op t x y u u').run P w=.ok () w:=by
    by_cases hni:u=.nilIface∧u'=.nilIface
    ·obtain⟨rfl,rfl⟩:=hni
     cases nk <;> simp [Td]at q1 q2
     obtain⟨ms,rfl,rfl⟩:=hlit rfl
     subst q1 q2
     refine Yr (.inr (.inr (.inr ⟨rfl,rfl,ms,ht,?_⟩)))
     cases h1:ms.isEmpty <;> cases h2:UB x <;> cases h3:UB y <;> simp [h1,h2,h3]at hc⊢
    ·refine Yr (.inr (.inl ⟨hni,?_⟩))
     rintro⟨⟨a',rfl⟩,_⟩
     cases nk <;> simp [Td]at q1
   obtain⟨e1,e2⟩:=Wq (t:=t) hsh
   split at hv
   ·simp only[cA]at hv;subst hv
    refine⟨_,?_,Jy⟩
    rw[Sem.run_bind,hG,e1]
    simp [hE]
   ·simp only[cA]at hv;subst hv
    refine⟨_,?_,Jy⟩
    rw[Sem.run_bind,hG,e2]
    simp [hE]
   ·simp at hv
 ·simp at hv
theorem MU {t:TypeId}{k:BK}{op:BinOp}{x y:Operand}{a b v:AV}{u u':Value}(hk:GT P t x y=some k)(hu:Qc κ a u)(hu':Qc κ b u')(hv:Qf op k a b=some v):
 ∃r,(do eqGuard op t x y u u';binOp op t u u':Sem Value).run P w=.ok r w∧Qc κ v r:=by
 unfold GT at hk
 split at hk
 ·simp only[cA]at hk;subst hk
  simp only[Qf]at hv
  split at hv
  ·split at hv
   ·rename_i k1 c1 k2 c2 hkk
    subst hkk
    simp only[cG]at hv
    obtain⟨r,hr,rfl⟩:=hv
    simp only[Qc]at hu hu';subst hu hu'
    refine⟨r,?_,by simp [Qc]⟩
    rw[Sem.run_bind,Yr (.inr (.inl (by simp)))]
    exact Lp hr
   ·simp at hv
  ·simp only[Qc]at hu hu';subst hu hu'
   obtain⟨r,hr,hr'⟩:=Lg (P:=P) (κ:=κ) (w:=w) (t:=t) hv
   refine⟨r,?_,hr'⟩
   rw[Sem.run_bind,Yr (.inr (.inl (by simp)))]
   exact hr
  ·simp at hv
 ·simp only[cA]at hk;subst hk
  simp only[Qf]at hv
  split at hv
  ·split at hv
   ·rename_i k1 c1 k2 c2 hkk
    subst hkk
    simp only[cG]at hv
    obtain⟨r,hr,rfl⟩:=hv
    simp only[Qc]at hu hu';subst hu hu'
    refine⟨r,?_,by simp [Qc]⟩
    rw[Sem.run_bind,Yr (.inr (.inl (by simp)))]
    exact Lp hr
   ·simp at hv
  ·simp only[Qc]at hu hu';subst hu hu'
   obtain⟨r,hr,hr'⟩:=Lg (P:=P) (κ:=κ) (w:=w) (t:=t) hv
   refine⟨r,?_,hr'⟩
   rw[Sem.run_bind,Yr (.inr (.inl (by simp)))]
   exact hr
  ·simp at hv
 ·rename_i ht
  simp only[cA]at hk;subst hk
  simp only[Qf]at hv
  split at hv
  ·simp only[cA]at hv;subst hv
   simp only[Qc]at hu hu';subst hu hu'
   refine⟨_,?_,Jy⟩
   rw[Sem.run_bind,Yr (.inr (.inl (by simp)))]
   exact(Lw ht _ _).1
  ·simp only[cA]at hv;subst hv
   simp only[Qc]at hu hu';subst hu hu'
   refine⟨_,?_,Jy⟩
   rw[Sem.run_bind,Yr (.inr (.inl (by simp)))]
   exact(Lw ht _ _).2
  ·simp at hv
 ·rename_i e ht
  simp only[cA]at hk;subst hk
  exact Xl (nk:=.p) (d:=.pointer e) ⟨e,rfl⟩ ht (fun hh=>by cases hh) hu hu' hv
 ·rename_i e ht
  simp only[cA]at hk;subst hk
  exact Xl (nk:=.s) (d:=.slice e) ⟨e,rfl⟩ ht (fun hh=>by cases hh) hu hu' hv
 ·rename_i e e' ht
  simp only[cA]at hk;subst hk
  exact Xl (nk:=.m) (d:=.map e e') ⟨e,e',rfl⟩ ht (fun hh=>by cases hh) hu hu' hv
 ·rename_i e e' e'' ht
  simp only[cA]at hk;subst hk
  exact Xl (nk:=.f) (d:=.func e e' e'') ⟨e,e',e'',rfl⟩ ht (fun hh=>by cases hh) hu hu' hv
 ·rename_i ms ht
  simp only[cA]at hk;subst hk
  exact Xl (nk:=.i) (d:=.interface ms) ⟨ms,rfl⟩ ht (fun _=>⟨ms,rfl,rfl⟩) hu hu' hv
 ·rename_i fs ht
  simp only[cG]at hk
  obtain⟨ks,hks,rfl⟩:=hk
  have hgt:P.eqGuardType P.depth t=false:=by
   unfold WK at hks
   split at hks
   ·simp at hks
   ·rename_i hg;simp only[lA,not_or,cP]at hg;exact hg.1
  simp only[Qf]at hv
  split at hv
  ·simp only[cG]at hv
   obtain⟨r,hr,rfl⟩:=hv
   simp only[Qc]at hu hu'
   obtain⟨xs,rfl,hxs⟩:=hu
   obtain⟨ys,rfl,hys⟩:=hu'
   refine⟨_,?_,Jy⟩
   rw[Sem.run_bind,Yr (.inr (.inr (.inl ⟨⟨_,rfl⟩,⟨_,rfl⟩,hgt⟩)))]
   obtain⟨e1,_⟩:=Wq (t:=t) (u:=.agg xs) (v:=.agg ys) rfl
   simp [e1,OS (P:=P) (w:=w) ht hks hxs hys hr]
  ·simp only[cG]at hv
   obtain⟨r,hr,rfl⟩:=hv
   simp only[Qc]at hu hu'
   obtain⟨xs,rfl,hxs⟩:=hu
   obtain⟨ys,rfl,hys⟩:=hu'
   refine⟨_,?_,Jy⟩
   rw[Sem.run_bind,Yr (.inr (.inr (.inl ⟨⟨_,rfl⟩,⟨_,rfl⟩,hgt⟩)))]
   obtain⟨_,e2⟩:=Wq (t:=t) (u:=.agg xs) (v:=.agg ys) rfl
   simp [e2,OS (P:=P) (w:=w) ht hks hxs hys hr]
  ·simp at hv
 ·simp at hk
end
section
variable {P:Program}{G:Nat→Option (List AV)}{κ:Kn}{A:Q3}{w:World}
theorem Su {l:List AV}{us:List Value}(h:Qi κ l us):Qc κ (.agg l) (.agg us.toArray):=by simp only[Qc];exact⟨_,rfl,by simpa using h⟩
theorem Im {l:List AV}{us:List Value}(h:Qi κ l us):Qc κ (.tuple l) (.tuple us.toArray):=by simp only[Qc];exact⟨_,rfl,by simpa using h⟩
theorem repL_two {a b:AV}{u v:Value}(ha:Qc κ a u)(hb:Qc κ b v):Qi κ [a,b] [u,v]:=by
 simp only[Qi]
 exact⟨_,_,rfl,ha,_,_,rfl,hb,rfl⟩
theorem Rw {op:UnOp}{a v:AV}{u:Value}(hu:Qc κ a u)(hv:J1 op a=some v):∃r,(Op.unary op u).run P w=.ok r w∧Qc κ v r:=by
 unfold J1 at hv
 split at hv
 ·simp only[cA]at hv;subst hv
  simp only[Qc]at hu;subst hu
  exact⟨_,by simp [Op.unary,Op.intArith],Jy⟩
 ·simp only[cA]at hv;subst hv
  simp only[Qc]at hu;subst hu
  exact⟨_,by simp [Op.unary],Jy⟩
 ·simp at hv
theorem TM (off:Nat):∀(vs:List Value) (k:Nat) (cells:Array Value),off+k+vs.length≤cells.size→
 ((vs.zipIdx k).foldl (fun(cs:Array Value) (x:Value×Nat)=>cs.setIfInBounds (off+x.2) x.1) cells).toList=cells.toList.take (off+k)++vs++cells.toList.drop (off+k+vs.length)
 |[],k,cells,h=>by simp
 |v::vs,k,cells,h=>by
  simp only[cE]at h
  simp only[List.zipIdx_cons,List.foldl_cons]
  rw[TM off vs (k+1) _ (by simp;omega)]
  have hlt:off+k<cells.toList.length:=by simp;omega
  have e1:(cells.setIfInBounds (off+k) v).toList=cells.toList.set (off+k) v:=by simp
  rw[e1]
  have e2:(cells.toList.set (off+k) v).take (off+(k+1))=cells.toList.take (off+k)++[v]:=by
   rw[show off+(k+1)=(off+k)+1 from by omega,List.take_add_one,List.take_set_of_le (fG _),List.getElem?_set_self hlt]
   rfl
  have e3:(cells.toList.set (off+k) v).drop (off+(k+1)+vs.length)=cells.toList.drop (off+k+(v::vs).length):=by
   rw[List.drop_set_of_lt (by omega)]
   congr 1
   simp;omega
  rw[e2,e3]
  simp
theorem Kk (place:Nat→Option (Nat×Nat)):∀(ps:List (Nat×Value)) (as:List (Nat×Nat×AV)) (cs cs':List AV) (cells:Array Value),Qi κ cs cells.toList→
 ps.length=as.length→(∀(i:Nat) (p:Nat×Value) (q:Nat×Nat×AV),ps[i]? =some p→as[i]? =some q→place p.1=some (q.1,q.2.1)∧Qc κ q.2.2 p.2)→VP cs as=some cs'→∃cells',Instr.fill place cells ps=some cells'∧Qi κ cs' cells'.toList
 |[],[],cs,cs',cells,hr,_,_,hf=>by
  simp only[VP,cA]at hf;subst hf
  exact⟨cells,rfl,hr⟩
 |(i,v)::ps,(off,size,c)::as,cs,cs',cells,hr,hl,hp,hf=>by
  rw[Xv]at hf
  split at hf
  ·rename_i hsz
   obtain⟨h1,h2⟩:=hp 0 (i,v) (off,size,c) rfl rfl
   simp only at h1 h2
   have hc:=OJ h2
   have hlen:=hc.length
   have hlen2:=hr.length
   simp only[dR]at hlen hlen2
   simp only[Instr.fill,h1]
   rw[fD (by simp only[lA,dZ,not_or];omega)]
   refine Kk place ps as _ cs' _ ?_ (by simpa using hl) (fun j p q hj hq=>hp (j+1) p q (by simpa using hj) (by simpa using hq)) hf
   rw[←Array.foldl_toList,Array.toList_zipIdx]
   have:=TM off v.cells.toList 0 cells (by simp only[dR];omega)
   simp only[fS]at this
   rw[this]
   refine Qi.append (Qi.append (Qi.take _ hr) hc) ?_
   rw[show off+v.cells.toList.length=off+size from by simp only[dR];omega]
   exact Qi.drop _ hr
  ·simp at hf
 |[],_::_,_,_,_,_,hl,_,_=>by simp at hl
 |_::_,[],_,_,_,_,hl,_,_=>by simp at hl
end
end Go.Ax
