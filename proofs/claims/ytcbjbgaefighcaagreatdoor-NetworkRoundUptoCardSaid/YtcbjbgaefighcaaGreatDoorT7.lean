/- Part 7 of the proof. -/
import Derived.Test.YtcbjbgaefighcaaGreatDoorT0
import Derived.Test.YtcbjbgaefighcaaGreatDoorT6
set_option linter.all false
namespace Go.Ax
open Go
inductive Fr where
 |seq (c:LC)
 |blk (id:Nat)
 |post (J:KS)
 |sch (need:List Nat) (W:VW) (next:Sched)
structure Cx where
 P:Program
 G:Nat→Option (List AV)
 rt:List Nat
 Q:QL
 X:XE
namespace Cx
variable (C:Cx)
def kq:List Fr→QL
 |[]=>C.Q
 | .seq c::s=>L0 (fun env ds A=>WL C.P C.G C.rt c env ds A (kq s) C.X) (kq s)
 | .blk id::s=>OD id (kq s)
 | .post J::s=>L0 J (kq s)
 | .sch need W next::s=>L0 (fun env ds A=>I5 need W A∧WS C.P C.G C.rt next W env ds A (kq s .normal) C.X) (kq s)
def run (c:LC)(s:List Fr)(env:Qn)(ds:List QV)(A:Q2):Prop:=WL C.P C.G C.rt c env ds A (C.kq s) C.X
def ex (e:LExit)(s:List Fr)(env:Qn)(ds:List QV)(A:Q2):Prop:=C.kq s e env ds A
def ops (l:List LInstr)(s:List Fr)(env:Qn)(ds:List QV)(A:Q2):Prop:=YF C.P C.G C.rt l env ds A (C.kq s .normal) C.X
def sch (d:Sched)(W:VW)(s:List Fr)(env:Qn)(ds:List QV)(A:Q2):Prop:=WS C.P C.G C.rt d W env ds A (C.kq s .normal) C.X
def kv (o:Option AV)(d:Option Nat)(l:List LInstr)(s:List Fr)(env:Qn)(ds:List QV)(A:Q2):Prop:=Yo o fun v=>C.ops l s (putD env d v) ds A
def kvs (o:Option AV)(k:Nat)(rd:Bool)(i:LInstr)(d:Sched)(W:VW)(s:List Fr)(env:Qn)(ds:List QV)(A:Q2):Prop:=
 Yo o fun v=>C.sch d (if rd then(k,fun A'=>V2 C.G i env A'=some v)::W else W) s (putD env i.dst v) ds A
def cd (v:AV)(a b:LC)(s:List Fr)(env:Qn)(ds:List QV)(A:Q2):Prop:=match v with
 | .raw (.bool t)=>if t then C.run a s env ds A else C.run b s env ds A
 |_=>False
def gd (o:Option Bool)(d:Option Nat)(lo:LOp)(l:List LInstr)(s:List Fr)(env:Qn)(ds:List QV)(A:Q2):Prop:=match o with
 |some true=>C.ops (⟨d,lo,none⟩::l) s env ds A
 |some false=>C.ops l s (putD env d J0) ds A
 |none=>False
def call (f:AV)(args:List AV)(d:Option Nat)(l:List LInstr)(s:List Fr)(env:Qn)(ds:List QV)(A:Q2):Prop:=match f with
 | .func (.func fid) first cap=>Qq C.P C.G fid (first++args++cap) A fun o A'=>match o with
  | .ret v=>C.ops l s (putD env d v) ds A'
  | .pan v=>C.X (Yq C.rt env) ds v A'
 |_=>False
def dfr (f:AV)(args:List AV)(d:Option Nat)(l:List LInstr)(s:List Fr)(env:Qn)(ds:List QV)(A:Q2):Prop:=match f with
 | .func (.func fid) first cap=>C.ops l s (putD env d J0) ((fid,first++args++cap)::ds) A
 |_=>False
def pan (v:AV)(env:Qn)(ds:List QV)(A:Q2):Prop:=match v with
 | .iface t v=>C.X (Yq C.rt env) ds (.iface t v) A
 |_=>False
def st (a:AV)(sz:Nat)(v:AV)(d:Option Nat)(l:List LInstr)(s:List Fr)(env:Qn)(ds:List QV)(A:Q2):Prop:=match a with
 | .ptr id o=>Yo (A id) fun ob=>match ob with
  | .cells cs=>v.cells.length=sz∧o+sz≤cs.length∧v.cells.all AV.one=true∧C.ops l s (putD env d J0) ds (A.upd id (some (.cells (XZ cs o v.cells))))
  |_=>False
 |_=>False
def st2 (ob:Option AObj)(id o sz:Nat)(v:AV)(d:Option Nat)(l:List LInstr)(s:List Fr)(env:Qn)(ds:List QV)(A:Q2):Prop:=match ob with
 |some (.cells cs)=>v.cells.length=sz∧o+sz≤cs.length∧v.cells.all AV.one=true∧C.ops l s (putD env d J0) ds (A.upd id (some (.cells (XZ cs o v.cells))))
 |_=>False
def sl (o:Option (List AV))(sz len:Nat)(d:Option Nat)(l:List LInstr)(s:List Fr)(env:Qn)(ds:List QV)(A:Q2):Prop:=
 Yo o fun cs=>∀t,A t=none→C.ops l s (putD env d (.slice sz len cs (some t))) ds (A.upd t (some .tip))
def s2b (v:AV)(d:Option Nat)(l:List LInstr)(s:List Fr)(env:Qn)(ds:List QV)(A:Q2):Prop:=match v with
 | .str b=>C.ops l s (putD env d (.slice 1 b.length (b.map fun x=>.raw (Yr x)) none)) ds A
 |_=>False
def app (n:Option (Nat×List AV))(sz bytes:Nat)(v:AV)(d:Option Nat)(l:List LInstr)(s:List Fr)(env:Qn)(ds:List QV)(A:Q2):Prop:=
 Yo n fun(m,cs')=>match v with
  | .raw (.slice none 0 0)=>if m=0 then C.ops l s (putD env d v) ds A else m*bytes≤140737488355328∧∀t,A t=none→C.ops l s (putD env d (.slice sz m cs' (some t))) ds (A.upd t (some .tip))
  | .slice sz' n cs (some t)=>sz'=sz∧A t=some .tip∧(n+m)*bytes≤140737488355328∧cs'.all AV.one=true∧∀t',A t'=none→C.ops l s (putD env d (.slice sz (n+m) (cs++cs') (some t'))) ds ((A.upd t none).upd t' (some .tip))
  |_=>False
def appB (n:Option (Nat×List AV))(sz bytes:Nat)(v:AV)(d:Option Nat)(l:List LInstr)(s:List Fr)(env:Qn)(ds:List QV)(A:Q2):Prop:=
 Yo n fun(m,cs')=>match v with
  | .raw (.slice none 0 0)=>if m=0 then C.ops l s (putD env d v) ds A else m*bytes≤140737488355328∧∀t,A t=none→t % 2=1→C.ops l s (putD env d (.slice sz m cs' (some t))) ds (A.upd t (some .tip))
  | .slice sz' n cs (some t)=>sz'=sz∧A t=some .tip∧(n+m)*bytes≤140737488355328∧cs'.all AV.one=true∧∀t',A t'=none→(t % 2=1→t' % 2=1)→C.ops l s (putD env d (.slice sz (n+m) (cs++cs') (some t'))) ds ((A.upd t none).upd t' (some .tip))
  |_=>False
def mset (fk:FK)(k v:AV)(m:AV)(d:Option Nat)(l:List LInstr)(s:List Fr)(env:Qn)(ds:List QV)(A:Q2):Prop:=match m with
 | .map id=>Yo (A id) fun ob=>match ob with
  | .mp es=>(∀(j:Nat) (m:Option Nat) (left:List (AV×AV)) (last:Option (AV×AV)),A j=some (.mit m left last)→m≠some id)∧Yo (Oj fk k v es) fun es'=>C.ops l s (putD env d J0) ds (A.upd id (some (.mp es')))
  |_=>False
 |_=>False
def rng (v:AV)(d:Option Nat)(l:List LInstr)(s:List Fr)(env:Qn)(ds:List QV)(A:Q2):Prop:=match v with
 | .raw (.map none)=>∀id,A id=none→C.ops l s (putD env d (.ptr id 0)) ds (A.upd id (some (.mit none [] none)))
 | .map m=>Yo (A m) fun ob=>match ob with
  | .mp es=>∀id,A id=none→C.ops l s (putD env d (.ptr id 0)) ds (A.upd id (some (.mit (some m) es none)))
  |_=>False
 |_=>False
def nxt (v:AV)(d:Option Nat)(l:List LInstr)(s:List Fr)(env:Qn)(ds:List QV)(A:Q2):Prop:=match v with
 | .ptr id 0=>Yo (A id) fun ob=>match ob with
  | .mit m left _=>(left=[]→C.ops l s (putD env d (.tuple [.raw (.bool false)])) ds A)∧
   ∀(j:Nat) (k v:AV),left[j]? =some (k,v)→C.ops l s (putD env d (.tuple [.raw (.bool true),k,v])) ds (A.upd id (some (.mit m (left.eraseIdx j) (some (k,v)))))
  |_=>False
 |_=>False
def ent (v:AV)(d:Option Nat)(l:List LInstr)(s:List Fr)(env:Qn)(ds:List QV)(A:Q2):Prop:=match v with
 | .ptr id 0=>Yo (A id) fun ob=>match ob with
  | .mit (some _) _ (some (k,v))=>C.ops l s (putD env d (.tuple [k,v])) ds A
  |_=>False
 |_=>False
def kvb (o:Option AV)(d:Option Nat)(l:List LInstr)(s:List Fr)(env:Qn)(ds:List QV)(A:Q2):Prop:=C.kv o d l s env ds A
end Cx
section
variable {C:Cx}{s:List Fr}{env:Qn}{ds:List QV}{A:Q2}{d:Option Nat}{l:List LInstr}{W:VW}
theorem GX:C.run .skip s env ds A=C.ex .normal s env ds A:=propext Iff.rfl
theorem EG:C.run (.ops l) s env ds A=C.ops l s env ds A:=propext Iff.rfl
theorem GZ {t:Sched}:C.run (.draw t) s env ds A=C.sch t [] s env ds A:=propext Iff.rfl
theorem Kj {a b:LC}:C.run (.seq a b) s env ds A=C.run a (.seq b::s) env ds A:=propext Iff.rfl
theorem F0 {x:Operand}{a b:LC}:C.run (.cond x a b) s env ds A=C.cd (Qs C.G env x) a b s env ds A:=propext Iff.rfl
theorem Vm {id:Nat}{a:LC}:C.run (.block id a) s env ds A=C.run a (.blk id::s) env ds A:=propext Iff.rfl
theorem GY {id:Nat}:C.run (.exit id) s env ds A=C.ex (.exit id) s env ds A:=propext Iff.rfl
theorem EF:C.run .ret s env ds A=C.ex .ret s env ds A:=propext Iff.rfl
theorem Qt {c:LC}(I:Nat→Qn→List QV→Q2→Prop)(n:Nat)(h:I n env ds A)(hr:∀n env ds A,I n env ds A→C.run c (.post (fun env ds A=>∃m,m<n∧I m env ds A)::s) env ds A):C.run (.loop c) s env ds A:=⟨I,⟨n,h⟩,hr⟩
theorem ex_nil {e:LExit}:C.ex e [] env ds A=C.Q e env ds A:=propext Iff.rfl
theorem OB {c:LC}:C.ex .normal (.seq c::s) env ds A=C.run c s env ds A:=propext Iff.rfl
theorem Pp {c:LC}:C.ex .ret (.seq c::s) env ds A=C.ex .ret s env ds A:=propext Iff.rfl
theorem Rw {c:LC}{j:Nat}:C.ex (.exit j) (.seq c::s) env ds A=C.ex (.exit j) s env ds A:=propext Iff.rfl
theorem zA {id:Nat}:C.ex .normal (.blk id::s) env ds A=C.ex .normal s env ds A:=propext Iff.rfl
theorem Pq {id:Nat}:C.ex .ret (.blk id::s) env ds A=C.ex .ret s env ds A:=propext Iff.rfl
theorem Ry {id j:Nat}:C.ex (.exit j) (.blk id::s) env ds A=if j=id then C.ex .normal s env ds A else C.ex (.exit j) s env ds A:=by
 simp only[Cx.ex,Cx.kq,OD];split <;> rfl
theorem DH {J:KS}:C.ex .normal (.post J::s) env ds A=J env ds A:=propext Iff.rfl
theorem Rx {J:KS}:C.ex .ret (.post J::s) env ds A=C.ex .ret s env ds A:=propext Iff.rfl
theorem Rf {J:KS}{j:Nat}:C.ex (.exit j) (.post J::s) env ds A=C.ex (.exit j) s env ds A:=propext Iff.rfl
theorem qZ {need:List Nat}{t:Sched}:C.ex .normal (.sch need W t::s) env ds A=(I5 need W A∧C.sch t W s env ds A):=propext Iff.rfl
theorem Sz {a b:LC}:C.cd (.raw (.bool true)) a b s env ds A=C.run a s env ds A:=propext Iff.rfl
theorem TY {a b:LC}:C.cd (.raw (.bool false)) a b s env ds A=C.run b s env ds A:=propext Iff.rfl
theorem E6 {t:Bool}{a b:LC}:C.cd (.raw (.bool t)) a b s env ds A=if t=true then C.run a s env ds A else C.run b s env ds A:=propext Iff.rfl
theorem Ha:C.ops [] s env ds A=C.ex .normal s env ds A:=propext Iff.rfl
theorem AZ {lo:LOp}{j:Nat}{w:Bool}:C.ops (⟨d,lo,some (j,w)⟩::l) s env ds A=C.gd (UJ w (env j)) d lo l s env ds A:=by
 simp only[Cx.ops,YF,YD,Cx.gd]
 split <;> rename_i h <;> simp [h]
theorem gd_true {lo:LOp}:C.gd (some true) d lo l s env ds A=C.ops (⟨d,lo,none⟩::l) s env ds A:=propext Iff.rfl
theorem FN {lo:LOp}:C.gd (some false) d lo l s env ds A=C.ops l s (putD env d J0) ds A:=propext Iff.rfl
theorem yI {t:Bool}{lo:LOp}:C.gd (some t) d lo l s env ds A=if t=true then C.ops (⟨d,lo,none⟩::l) s env ds A else C.ops l s (putD env d J0) ds A:=by cases t <;> rfl
theorem R0 {b w:Bool}:UJ w (.raw (.bool b))=some (b==w):=rfl
theorem ML {w:Bool}:UJ w J0=some false:=rfl
theorem ops_val {lo:LOp}(h:lo.isV=true):C.ops (⟨d,lo,none⟩::l) s env ds A=C.kv (Qu C.G env A lo) d l s env ds A:=by
 simp only[Cx.ops,YF,YD,LP h,Cx.kv]
theorem AX {x:Operand}:C.ops (⟨d,.mv x,none⟩::l) s env ds A=C.ops l s (putD env d (Qs C.G env x)) ds A:=propext Iff.rfl
theorem Fa {x:Operand}:C.ops (⟨d,.nchk x,none⟩::l) s env ds A=C.kv (Qu C.G env A (.nchk x)) d l s env ds A:=propext Iff.rfl
theorem F9 {c a b:Operand}:C.ops (⟨d,.pick c a b,none⟩::l) s env ds A=C.kv (Qu C.G env A (.pick c a b)) d l s env ds A:=propext Iff.rfl
theorem D2 {o:BinOp}{k:BK}{x y:Operand}:C.ops (⟨d,.bin o k x y,none⟩::l) s env ds A=C.kvb (Qu C.G env A (.bin o k x y)) d l s env ds A:=propext Iff.rfl
theorem AW {o:UnOp}{x:Operand}:C.ops (⟨d,.un o x,none⟩::l) s env ds A=C.kv (Qu C.G env A (.un o x)) d l s env ds A:=propext Iff.rfl
theorem Fh {k:IntKind}{x:Operand}:C.ops (⟨d,.conv k x,none⟩::l) s env ds A=C.kv (Qu C.G env A (.conv k x)) d l s env ds A:=propext Iff.rfl
theorem F8 {x:Operand}:C.ops (⟨d,.same x,none⟩::l) s env ds A=C.kv (Qu C.G env A (.same x)) d l s env ds A:=propext Iff.rfl
theorem D3 {x:Operand}:C.ops (⟨d,.b2s x,none⟩::l) s env ds A=C.kv (Qu C.G env A (.b2s x)) d l s env ds A:=propext Iff.rfl
theorem EX {o:Nat}{x:Operand}:C.ops (⟨d,.fld o x,none⟩::l) s env ds A=C.kv (Qu C.G env A (.fld o x)) d l s env ds A:=propext Iff.rfl
theorem NR {o sz:Nat}{g:Bool}{x:Operand}:C.ops (⟨d,.field o sz g x,none⟩::l) s env ds A=C.kv (Qu C.G env A (.field o sz g x)) d l s env ds A:=propext Iff.rfl
theorem Fg {n sz:Nat}{x i:Operand}:C.ops (⟨d,.idxP n sz x i,none⟩::l) s env ds A=C.kv (Qu C.G env A (.idxP n sz x i)) d l s env ds A:=propext Iff.rfl
theorem Ff {sz:Nat}{x i:Operand}:C.ops (⟨d,.idxS sz x i,none⟩::l) s env ds A=C.kv (Qu C.G env A (.idxS sz x i)) d l s env ds A:=propext Iff.rfl
theorem Fe {n sz:Nat}{g:Bool}{x i:Operand}:C.ops (⟨d,.idxV n sz g x i,none⟩::l) s env ds A=C.kv (Qu C.G env A (.idxV n sz g x i)) d l s env ds A:=propext Iff.rfl
theorem Pa {x i:Operand}:C.ops (⟨d,.idxStr x i,none⟩::l) s env ds A=C.kv (Qu C.G env A (.idxStr x i)) d l s env ds A:=propext Iff.rfl
theorem Fd {sz:Nat}{g:Bool}{x:Operand}:C.ops (⟨d,.load sz g x,none⟩::l) s env ds A=C.kv (Qu C.G env A (.load sz g x)) d l s env ds A:=propext Iff.rfl
theorem EY {x:Operand}{i:Nat}:C.ops (⟨d,.ext x i,none⟩::l) s env ds A=C.kv (Qu C.G env A (.ext x i)) d l s env ds A:=propext Iff.rfl
theorem NS {z:List Value}{ps:List (Nat×Nat×Operand)}:C.ops (⟨d,.build z ps,none⟩::l) s env ds A=C.kv (Qu C.G env A (.build z ps)) d l s env ds A:=propext Iff.rfl
theorem EV {t:TypeId}{x:Operand}:C.ops (⟨d,.mkI t x,none⟩::l) s env ds A=C.kv (Qu C.G env A (.mkI t x)) d l s env ds A:=propext Iff.rfl
theorem EW {f:Fn}{a c:List Operand}:C.ops (⟨d,.mkF f a c,none⟩::l) s env ds A=C.kv (Qu C.G env A (.mkF f a c)) d l s env ds A:=propext Iff.rfl
theorem NO {x:Operand}{lo hi:Option Operand}:C.ops (⟨d,.slStr x lo hi,none⟩::l) s env ds A=C.kv (Qu C.G env A (.slStr x lo hi)) d l s env ds A:=propext Iff.rfl
theorem F7 {sz:Nat}{x:Operand}{lo hi:Option Operand}:C.ops (⟨d,.slSl sz x lo hi,none⟩::l) s env ds A=C.kv (Qu C.G env A (.slSl sz x lo hi)) d l s env ds A:=propext Iff.rfl
theorem NQ {k:LK}{x:Operand}:C.ops (⟨d,.lenOf k x,none⟩::l) s env ds A=C.kv (Qu C.G env A (.lenOf k x)) d l s env ds A:=propext Iff.rfl
theorem AY {m:Bool}{x y:Operand}:C.ops (⟨d,.mm m x y,none⟩::l) s env ds A=C.kv (Qu C.G env A (.mm m x y)) d l s env ds A:=propext Iff.rfl
theorem EQ {t:TypeId}{z:Value}{x:Operand}:C.ops (⟨d,.tas t z x,none⟩::l) s env ds A=C.kv (Qu C.G env A (.tas t z x)) d l s env ds A:=propext Iff.rfl
theorem Fc {fk:FK}{ok:Bool}{z:Value}{m k:Operand}:C.ops (⟨d,.look fk ok z m k,none⟩::l) s env ds A=C.kv (Qu C.G env A (.look fk ok z m k)) d l s env ds A:=propext Iff.rfl
theorem Do {v:AV}:C.kv (some v) d l s env ds A=C.ops l s (putD env d v) ds A:=propext Iff.rfl
theorem Dn {k:IntKind}{n:Int}:C.kvb (some (.raw (.int k n))) d l s env ds A=C.ops l s (putD env d (.raw (.int k n))) ds A:=propext Iff.rfl
theorem Dm {b:List UInt8}:C.kvb (some (.str b)) d l s env ds A=C.ops l s (putD env d (.str b)) ds A:=propext Iff.rfl
theorem HP {t:Bool}:C.kvb (some (.raw (.bool t))) d l s env ds A=((t=true→C.ops l s (putD env d (.raw (.bool true))) ds A)∧(t=false→C.ops l s (putD env d (.raw (.bool false))) ds A)):=by
 cases t <;> simp [Cx.kvb,Cx.kv]
theorem NT {e:TypeId}{z:List Value}(he:(@BEq.beq Nat _ e 102)=false):C.ops (⟨d,.alloc e z,none⟩::l) s env ds A=∀id,A id=none→C.ops l s (putD env d (.ptr id 0)) ds (A.upd id (some (.cells (z.map Zc)))):=by
 have hne:¬e=Om:=fun h=>by subst h;exact absurd he (by decide)
 exact propext ⟨fun h id hi=>h id hi fun h=>absurd h hne,fun h id hi _=>h id hi⟩
theorem Pc {z:List Value}:C.ops (⟨d,.alloc 102 z,none⟩::l) s env ds A=∀id,A id=none→id % 2=1→C.ops l s (putD env d (.ptr id 0)) ds (A.upd id (some (.cells (z.map Zc)))):=
 propext ⟨fun h id hi ho=>h id hi fun _=>ho,fun h id hi ho=>h id hi (ho rfl)⟩
theorem D1 {e:TypeId}{x:Operand}:C.ops (⟨d,.box e x,none⟩::l) s env ds A=∀id,A id=none→C.ops l s (putD env d (.ptr id 0)) ds (A.upd id (some (.cells (Qs C.G env x).cells))):=propext Iff.rfl
theorem NN {sz:Nat}{a v:Operand}:C.ops (⟨d,.store sz a v,none⟩::l) s env ds A=C.st (Qs C.G env a) sz (Qs C.G env v) d l s env ds A:=propext Iff.rfl
theorem AH {id o sz:Nat}{v:AV}:C.st (.ptr id o) sz v d l s env ds A=C.st2 (A id) id o sz v d l s env ds A:=by
 simp only[Cx.st,Cx.st2]
 cases A id with
 |none=>rfl
 |some ob=>cases ob <;> rfl
theorem Z5 {id o sz:Nat}{v:AV}{cs:List AV}(h1:v.cells.length=sz)(h2:o+sz≤cs.length)(h3:v.cells.all AV.one=true):C.st2 (some (.cells cs)) id o sz v d l s env ds A=C.ops l s (putD env d J0) ds (A.upd id (some (.cells (XZ cs o v.cells)))):=by
 simp only[Cx.st2,h1,h2,h3,true_and]
theorem Pb {e sz len:Nat}{z:List Value}{ps:List (Nat×Operand)}:C.ops (⟨d,.bslice e sz len z ps,none⟩::l) s env ds A=C.sl (Xp sz len z (ps.map fun(i,x)=>(i,Qs C.G env x))) sz len d l s env ds A:=propext Iff.rfl
theorem sl_some {cs:List AV}{sz len:Nat}:C.sl (some cs) sz len d l s env ds A=∀t,A t=none→C.ops l s (putD env d (.slice sz len cs (some t))) ds (A.upd t (some .tip)):=propext Iff.rfl
theorem ER {e:TypeId}{x:Operand}:C.ops (⟨d,.s2b e x,none⟩::l) s env ds A=C.s2b (Qs C.G env x) d l s env ds A:=propext Iff.rfl
theorem EE {b:List UInt8}:C.s2b (.str b) d l s env ds A=C.ops l s (putD env d (.slice 1 b.length (b.map fun x=>.raw (Yr x)) none)) ds A:=propext Iff.rfl
theorem D4 {e sz bytes:Nat}{x y:Operand}(he:(@BEq.beq Nat _ e 5)=false):C.ops (⟨d,.app e sz bytes x y,none⟩::l) s env ds A=C.app (UH sz (Qs C.G env y)) sz bytes (Qs C.G env x) d l s env ds A:=by
 have hne:(e=Wo)=False:=eq_false fun h=>by subst h;exact absurd he (by decide)
 simp only[Cx.ops,YF,YD,Vv,LH,Cx.app,hne,false_implies,true_implies]
 cases UH sz (Qs C.G env y)with
 |none=>rfl
 |some p=>
  obtain⟨m,cs⟩:=p
  simp only[Jk]
  generalize Qs C.G env x=v
  split <;> first|rfl|simp_all
theorem TK {sz bytes:Nat}{x y:Operand}:C.ops (⟨d,.app 5 sz bytes x y,none⟩::l) s env ds A=C.appB (UH sz (Qs C.G env y)) sz bytes (Qs C.G env x) d l s env ds A:=by
 have hne:((5:Nat)=Wo)=True:=eq_true rfl
 simp only[Cx.ops,YF,YD,Vv,LH,Cx.appB,hne,true_implies]
 cases UH sz (Qs C.G env y)with
 |none=>rfl
 |some p=>
  obtain⟨m,cs⟩:=p
  simp only[Jk]
  generalize Qs C.G env x=v
  split <;> first|rfl|simp_all
theorem E9 {m sz bytes:Nat}{cs:List AV}:C.appB (some (m,cs)) sz bytes (.raw (.slice none 0 0)) d l s env ds A=if m=0 then C.ops l s (putD env d (.raw (.slice none 0 0))) ds A else m*bytes≤140737488355328∧∀t,A t=none→t % 2=1→C.ops l s (putD env d (.slice sz m cs (some t))) ds (A.upd t (some .tip)):=propext Iff.rfl
theorem E8 {m sz sz' bytes n t:Nat}{cs cs':List AV}:C.appB (some (m,cs')) sz bytes (.slice sz' n cs (some t)) d l s env ds A=(sz'=sz∧A t=some .tip∧(n+m)*bytes≤140737488355328∧cs'.all AV.one=true∧∀t',A t'=none→(t % 2=1→t' % 2=1)→C.ops l s (putD env d (.slice sz (n+m) (cs++cs') (some t'))) ds ((A.upd t none).upd t' (some .tip))):=propext Iff.rfl
theorem XR {m sz bytes:Nat}{cs:List AV}:C.app (some (m,cs)) sz bytes (.raw (.slice none 0 0)) d l s env ds A=if m=0 then C.ops l s (putD env d (.raw (.slice none 0 0))) ds A else m*bytes≤140737488355328∧∀t,A t=none→C.ops l s (putD env d (.slice sz m cs (some t))) ds (A.upd t (some .tip)):=propext Iff.rfl
theorem V5 {m sz sz' bytes n t:Nat}{cs cs':List AV}:C.app (some (m,cs')) sz bytes (.slice sz' n cs (some t)) d l s env ds A=(sz'=sz∧A t=some .tip∧(n+m)*bytes≤140737488355328∧cs'.all AV.one=true∧∀t',A t'=none→C.ops l s (putD env d (.slice sz (n+m) (cs++cs') (some t'))) ds ((A.upd t none).upd t' (some .tip))):=propext Iff.rfl
theorem Fi {f:Operand}{args:List Operand}:C.ops (⟨d,.call f args,none⟩::l) s env ds A=C.call (Qs C.G env f) (args.map (Qs C.G env)) d l s env ds A:=propext Iff.rfl
theorem D0 {f:Operand}{args:List Operand}:C.ops (⟨d,.dfr f args,none⟩::l) s env ds A=C.dfr (Qs C.G env f) (args.map (Qs C.G env)) d l s env ds A:=propext Iff.rfl
theorem FX {f:FuncId}{first args cap:List AV}:C.dfr (.func (.func f) first cap) args d l s env ds A=C.ops l s (putD env d J0) ((f,first++args++cap)::ds) A:=propext Iff.rfl
theorem ET {x:Operand}:C.ops (⟨d,.pan x,none⟩::l) s env ds A=C.pan (Qs C.G env x) env ds A:=propext Iff.rfl
theorem NL {t:TypeId}{v:AV}:C.pan (.iface t v) env ds A=C.X (Yq C.rt env) ds (.iface t v) A:=propext Iff.rfl
theorem NP:C.ops (⟨d,.mkMap,none⟩::l) s env ds A=∀id,A id=none→(∀(j:Nat) (m:Option Nat) (left:List (AV×AV)) (last:Option (AV×AV)),A j=some (.mit m left last)→m≠some id)→C.ops l s (putD env d (.map id)) ds (A.upd id (some (.mp []))):=propext Iff.rfl
theorem Fb {fk:FK}{k v m:Operand}:C.ops (⟨d,.mset fk k v m,none⟩::l) s env ds A=C.mset fk (Qs C.G env k) (Qs C.G env v) (Qs C.G env m) d l s env ds A:=propext Iff.rfl
theorem ES {x:Operand}:C.ops (⟨d,.rng x,none⟩::l) s env ds A=C.rng (Qs C.G env x) d l s env ds A:=propext Iff.rfl
theorem EU {x:Operand}:C.ops (⟨d,.nxt x,none⟩::l) s env ds A=C.nxt (Qs C.G env x) d l s env ds A:=propext Iff.rfl
theorem EZ {x:Operand}:C.ops (⟨d,.ent x,none⟩::l) s env ds A=C.ent (Qs C.G env x) d l s env ds A:=propext Iff.rfl
theorem GU:C.sch .done W s env ds A=C.ex .normal s env ds A:=propext Iff.rfl
theorem EB:C.sch .nil W s env ds A=True:=propext Iff.rfl
theorem EA {k:Nat}{rd:Bool}{i:LInstr}{t:Sched}:C.sch (.val k rd i t) W s env ds A=C.kvs (V2 C.G i env A) k rd i t W s env ds A:=propext Iff.rfl
theorem FG {v:AV}{k:Nat}{i:LInstr}{t:Sched}:C.kvs (some v) k false i t W s env ds A=C.sch t W s (putD env i.dst v) ds A:=propext Iff.rfl
theorem Rv {v:AV}{k:Nat}{i:LInstr}{t:Sched}:C.kvs (some v) k true i t W s env ds A=C.sch t ((k,fun A'=>V2 C.G i env A'=some v)::W) s (putD env i.dst v) ds A:=propext Iff.rfl
theorem ED {i:LInstr}{need:List Nat}{t o:Sched}:C.sch (.eff i need t o) W s env ds A=(C.ops [i] (.sch need W t::s) env ds A∧C.sch o W s env ds A):=propext Iff.rfl
theorem Pt {G:Nat→Option (List AV)}{lo:LOp}:V2 G ⟨d,lo,none⟩ env A=Qu G env A lo:=rfl
def evG (G:Nat→Option (List AV))(o:Option Bool)(lo:LOp)(env:Qn)(A:Q2):Option AV:=match o with
 |some true=>Qu G env A lo
 |some false=>some J0
 |none=>none
theorem Pr {G:Nat→Option (List AV)}{lo:LOp}{j:Nat}{w:Bool}:V2 G ⟨d,lo,some (j,w)⟩ env A=evG G (UJ w (env j)) lo env A:=by
 simp only[V2,evG]
 split <;> simp_all
theorem FU {G:Nat→Option (List AV)}{lo:LOp}:evG G (some true) lo env A=Qu G env A lo:=rfl
theorem Ge {G:Nat→Option (List AV)}{lo:LOp}:evG G (some false) lo env A=some J0:=rfl
theorem NH {v:AV}:putD env none v=env:=rfl
theorem JD {t u:Nat}{v:AV}:putD env (some t) v u=if u=t then v else env u:=rfl
theorem D5 {G:Nat→Option (List AV)}{t:Nat}:Qs G env (.tmp t)=env t:=rfl
theorem yH {G:Nat→Option (List AV)}{f:FuncId}:Qs G env (.func f)=.func (.func f) [] []:=rfl
theorem JV {o:Option AV}{v:AV}(h:o=some v)(k:C.ops l s (putD env d v) ds A):C.kv o d l s env ds A:=by subst h;exact k
theorem kvb_of {o:Option AV}{v:AV}(h:o=some v)(k:C.ops l s (putD env d v) ds A):C.kvb o d l s env ds A:=by subst h;exact k
theorem QW {o:Option (List AV)}{cs:List AV}{sz len:Nat}(h:o=some cs)(k:∀t,A t=none→C.ops l s (putD env d (.slice sz len cs (some t))) ds (A.upd t (some .tip))):C.sl o sz len d l s env ds A:=by subst h;exact k
theorem ZA {o:Option AV}{v:AV}{k:Nat}{rd:Bool}{i:LInstr}{t:Sched}(h:o=some v)(hk:C.sch t (if rd then(k,fun A'=>V2 C.G i env A'=some v)::W else W) s (putD env i.dst v) ds A):C.kvs o k rd i t W s env ds A:=by subst h;exact hk
theorem Qg {f:FuncId}{first args cap:List AV}{K:Out→Q2→Prop}(h:Qq C.P C.G f (first++args++cap) A K)
 (hk:∀o A',K o A'→match o with
  | .ret v=>C.ops l s (putD env d v) ds A'
  | .pan v=>C.X (Yq C.rt env) ds v A'):C.call (.func (.func f) first cap) args d l s env ds A:=h.mono hk
def QB (P:Program)(G:Nat→Option (List AV))(f:FuncId)(args:List AV)(A:Q2)(v:AV)(A':Q2):Prop:=Qq P G f args A fun o A1=>o=.ret v∧A1=A'
def Pan (P:Program)(G:Nat→Option (List AV))(f:FuncId)(args:List AV)(A:Q2)(v:AV)(A':Q2):Prop:=Qq P G f args A fun o A1=>o=.pan v∧A1=A'
theorem Q3 {f:FuncId}{first args cap:List AV}{v:AV}{A':Q2}(h:QB C.P C.G f (first++args++cap) A v A')(hk:C.ops l s (putD env d v) ds A'):C.call (.func (.func f) first cap) args d l s env ds A:=
 Qg h fun _ _ ⟨h1,h2⟩=>by subst h1;subst h2;exact hk
theorem yK {f:FuncId}{first args cap:List AV}{v:AV}{A':Q2}(h:Pan C.P C.G f (first++args++cap) A v A')(hk:C.X (Yq C.rt env) ds v A'):C.call (.func (.func f) first cap) args d l s env ds A:=
 Qg h fun _ _ ⟨h1,h2⟩=>by subst h1;subst h2;exact hk
end
def Cx.of (P:Program)(G:Nat→Option (List AV))(dfr:Bool)(res:List LRes)(K:Out→Q2→Prop):Cx:=⟨P,G,VZ dfr res,Lc P G ⟨0,dfr,res,.skip⟩ K,Oy P G ⟨0,dfr,res,.skip⟩ K⟩
theorem Q4 {P:Program}{G:Nat→Option (List AV)}{f:FuncId}{n:Nat}{dfr:Bool}{res:List LRes}{c:LC}(hl:Qa P f=some ⟨n,dfr,res,c⟩){args:List AV}{A:Q2}{K:Out→Q2→Prop}(hn:args.length≤n)
 (h:(Cx.of P G dfr res K).run c [] (Js args) [] A):Qq P G f args A K:=MR hl ⟨hn,h⟩
section
variable {P:Program}{G:Nat→Option (List AV)}{dfr:Bool}{res:List LRes}{K:Out→Q2→Prop}{env:Qn}{ds:List QV}{A:Q2}{v:AV}
theorem of_P:(Cx.of P G dfr res K).P=P:=rfl
theorem of_G:(Cx.of P G dfr res K).G=G:=rfl
theorem qD:(Cx.of P G dfr res K).ex .ret [] env [] A=Vq res env K none A:=propext Iff.rfl
theorem NY:(Cx.of P G dfr res K).ex .normal [] env [] A=Vq res env K none A:=propext Iff.rfl
theorem Fx:(Cx.of P G dfr res K).ex .ret [] env ds A=XD P G ds none A (Vq res env K):=propext Iff.rfl
theorem Rs:(Cx.of P G dfr res K).ex .normal [] env ds A=XD P G ds none A (Vq res env K):=propext Iff.rfl
theorem Xt:(Cx.of P G false res K).X env [] v A=∃A',VU A A'∧K (.pan v) A':=by simp [Cx.of,Oy]
theorem Fy:(Cx.of P G true res K).X env ds v A=XD P G ds (some v) A (Vq res env K):=propext Iff.rfl
end
def U1 (o:Option AV)(K:Out→Q2→Prop)(A:Q2):Prop:=∃v v' A',o=some v∧Wk v v'∧VU A A'∧K (.ret v') A'
theorem O2 {res:List LRes}{env:Qn}{K:Out→Q2→Prop}{A:Q2}:Vq res env K none A=U1 (Kr res env A) K A:=rfl
theorem J2 {K:Out→Q2→Prop}{A A':Q2}{v v':AV}(h:Wk v v')(hA:VU A A')(hK:K (.ret v') A'):U1 (some v) K A:=⟨v,v',A',rfl,h,hA,hK⟩
theorem Qv {A A':Q2}{v v':AV}(h:v=v')(hA:VU A A'):U1 (some v) (fun o A1=>o=.ret v'∧A1=A') A:=⟨v,v',A',rfl,h▸Wk.refl _,hA,rfl,rfl⟩
theorem F3 {t:Nat}{env:Qn}{A:Q2}:Kr [.tmp t] env A=some (env t):=rfl
theorem QR {env:Qn}{A:Q2}:Kr [] env A=some (.tuple []):=rfl
theorem jZ {res:List LRes}{env:Qn}{K:Out→Q2→Prop}{A A':Q2}{v v':AV}(h1:Kr res env A=some v)(h2:Wk v v')(h3:VU A A')(h4:K (.ret v') A'):Vq res env K none A:=⟨v,v',A',h1,h2,h3,h4⟩
section
variable {P:Program}{G:Nat→Option (List AV)}{rt:List Nat}
theorem OW {K K':KS}{X:XE}(hk:∀env ds A,K env ds A→K' env ds A):∀(l:List LInstr) (env:Qn) (ds:List QV) (A:Q2),YF P G rt l env ds A K X→YF P G rt l env ds A K' X
 |[],_,_,_,h=>hk _ _ _ h
 |i::r,env,ds,A,h=>by
  simp only[YF]at h⊢
  exact Xx (fun env' ds' A' h=>OW hk r env' ds' A' h) h
theorem Hh {K K':KS}{X:XE}(hk:∀env ds A,K env ds A→K' env ds A):∀(s:Sched) (W:VW) (env:Qn) (ds:List QV) (A:Q2),WS P G rt s W env ds A K X→WS P G rt s W env ds A K' X
 | .done,_,_,_,_,h=>hk _ _ _ h
 | .nil,_,_,_,_,h=>h
 | .val k rd i r,W,env,ds,A,h=>by
  simp only[WS]at h⊢
  exact Vn (fun v _ h=>Hh hk r _ _ _ _ h) h
 | .eff i need a b,W,env,ds,A,h=>by
  simp only[WS]at h⊢
  exact⟨Xx (fun env' ds' A' h=>⟨h.1,Hh hk a _ _ _ _ h.2⟩) h.1,Hh hk b _ _ _ _ h.2⟩
theorem Vt {X:XE}:∀(c:LC) (Q Q':QL),(∀e env ds A,Q e env ds A→Q' e env ds A)→∀(env:Qn) (ds:List QV) (A:Q2),WL P G rt c env ds A Q X→WL P G rt c env ds A Q' X
 | .skip,_,_,hq,_,_,_,h=>hq _ _ _ _ h
 | .ops l,_,_,hq,env,ds,A,h=>OW (hq .normal) l env ds A h
 | .draw s,_,_,hq,env,ds,A,h=>Hh (hq .normal) s [] env ds A h
 | .seq a b,Q,Q',hq,env,ds,A,h=>by
  simp only[WL]at h⊢
  refine Vt a _ _ (fun e env ds A h=> ?_) env ds A h
  cases e with
  |normal=>exact Vt b Q Q' hq env ds A h
  |exit j=>exact hq (.exit j) env ds A h
  |ret=>exact hq .ret env ds A h
 | .cond x a b,Q,Q',hq,env,ds,A,h=>by
  simp only[WL]at h⊢
  split at h
  ·split at h
   ·rename_i ht;rw[fC ht];exact Vt a Q Q' hq env ds A h
   ·rename_i ht;rw[fD ht];exact Vt b Q Q' hq env ds A h
  ·exact h
 | .block id c,Q,Q',hq,env,ds,A,h=>by
  simp only[WL]at h⊢
  refine Vt c _ _ (fun e env ds A h=> ?_) env ds A h
  cases e with
  |normal=>exact hq .normal env ds A h
  |exit j=>
   simp only[OD]at h⊢
   split at h
   ·rename_i hj;rw[fC hj];exact hq .normal env ds A h
   ·rename_i hj;rw[fD hj];exact hq (.exit j) env ds A h
  |ret=>exact hq .ret env ds A h
 | .loop c,Q,Q',hq,env,ds,A,h=>by
  simp only[WL]at h⊢
  obtain⟨I,h0,hr⟩:=h
  refine⟨I,h0,fun n env ds A hI=>Vt c _ _ (fun e env ds A h=> ?_) env ds A (hr n env ds A hI)⟩
  cases e with
  |normal=>exact h
  |exit j=>exact hq (.exit j) env ds A h
  |ret=>exact hq .ret env ds A h
 | .exit id,_,_,hq,env,ds,A,h=>hq (.exit id) env ds A h
 | .ret,_,_,hq,env,ds,A,h=>hq .ret env ds A h
end
theorem Qb {C:Cx}{a b:LC}{s:List Fr}{env:Qn}{ds:List QV}{A:Q2}(M:KS)(h1:C.run a (.post M::s) env ds A)(h2:∀env ds A,M env ds A→C.run b s env ds A):C.run (.seq a b) s env ds A:=by
 rw[Kj]
 refine Vt a _ _ (fun e env ds A h=> ?_) env ds A h1
 cases e with
 |normal=>exact h2 env ds A h
 |exit j=>exact h
 |ret=>exact h
theorem Nh {C:Cx}{c:LC}{s:List Fr}{env:Qn}{ds:List QV}{A:Q2}(h:C.run c s env ds A):C.ex .normal (.seq c::s) env ds A:=by rw[OB];exact h
theorem Qp {b:Bool}:(b==true)=b:=by cases b <;> rfl
theorem Ql {b:Bool}:(b==false)= !b:=by cases b <;> rfl
def Jb:=And.intro @GX<|And.intro @EG<|And.intro @GZ<|And.intro @Kj<|And.intro @F0<|And.intro @Vm<|And.intro @GY<|And.intro @EF<|And.intro @OB<|And.intro @Pp<|And.intro @Rw<|
 And.intro @zA<|And.intro @Pq<|And.intro @Ry<|And.intro @DH<|And.intro @Rx<|And.intro @Rf<|And.intro @qZ<|And.intro @Sz<|And.intro @TY<|And.intro @Ha<|And.intro @AZ<|And.intro @gd_true<|And.intro @FN<|
 And.intro @R0<|And.intro @ML<|And.intro @GU<|And.intro @EB<|And.intro @EA<|And.intro @FG<|And.intro @Rv<|And.intro @ED<|And.intro @Pt<|And.intro @Pr<|And.intro @FU<|And.intro @Ge<|
 And.intro @of_P<|And.intro @of_G<|And.intro @qD<|And.intro @NY<|And.intro @NH<|And.intro @JD<|And.intro @O2<|And.intro @F3<|@QR
def Ja:=And.intro @AX<|And.intro @Do<|And.intro @Dn<|And.intro @Dm<|And.intro @HP<|And.intro @Fa<|And.intro @F9<|And.intro @D2<|And.intro @AW<|And.intro @Fh<|And.intro @F8<|And.intro @D3<|And.intro @EX<|And.intro @NR<|And.intro @Fg<|
 And.intro @Ff<|And.intro @Fe<|And.intro @Pa<|And.intro @Fd<|And.intro @EY<|And.intro @NS<|And.intro @EV<|And.intro @EW<|And.intro @NO<|And.intro @F7<|And.intro @NQ<|And.intro @AY<|And.intro @EQ<|And.intro @Fc<|
 And.intro @NN<|And.intro @AH<|And.intro @ER<|And.intro @EE<|And.intro @D4<|And.intro @Fi<|And.intro @D0<|And.intro @FX<|And.intro @ET<|And.intro @NL<|And.intro @Fb<|And.intro @ES<|And.intro @EU<|And.intro @EZ<|And.intro @Pb<|
 @D5
theorem Qe {n:Int}(h1: -9223372036854775808≤n)(h2:n<9223372036854775808):IntKind.i64.wrap n=n:=by
 unfold IntKind.wrap
 simp [IntKind.bits,IntKind.signed]
 omega
theorem yA {t:Bool}:(t==false)= !t:=by cases t <;> rfl
abbrev i64 (n:Int):AV:=.raw (.int .i64 n)
abbrev u8 (c:UInt8):AV:=.raw (.int .u8 c.toNat)
abbrev bo (b:Bool):AV:=.raw (.bool b)
abbrev ZD:AV:=.tuple []
abbrev T8 (l:List (List UInt8)):AV:=.slice 1 l.length (l.map .str) none
theorem Jt {sz n:Nat}{cs:List AV}{tip:Option Nat}:Wk (.slice sz n cs tip) (.slice sz n cs none):=fun κ u h=>by
 simp only[Qd]at h⊢
 rcases h with⟨_,h2,h3,h4⟩|⟨b,o,cap,h1,h2,h3,h4,_⟩
 ·exact .inl ⟨trivial,h2,h3,h4⟩
 ·exact .inr ⟨b,o,cap,h1,h2,h3,h4,fun t ht=>by cases ht⟩
theorem Jf {sz:Nat}:Wk (.raw (.slice none 0 0)) (.slice sz 0 [] none):=fun κ u h=>by
 simp only[Qd]at h⊢
 exact .inl ⟨trivial,trivial,trivial,none,h⟩
def Xn (as bs:List AV):Prop:=∀κ us,Qi κ as us→Qi κ bs us
theorem Xn.nil:Xn [] []:=fun _ _ h=>h
theorem Xn.cons {a b:AV}{as bs:List AV}(h:Wk a b)(hs:Xn as bs):Xn (a::as) (b::bs):=fun κ us hr=>by
 simp only[Qi]at hr⊢
 obtain⟨x,xs,h1,h2,h3⟩:=hr
 exact⟨x,xs,h1,h κ x h2,hs κ xs h3⟩
theorem Qq.wk {P:Program}{G:Nat→Option (List AV)}{f:FuncId}{as bs:List AV}{A:Q2}{K:Out→Q2→Prop}(hw:Xn as bs)(h:Qq P G f bs A K):Qq P G f as A K:=
 ⟨h.1,fun κ w hr vs hvs=>h.2 κ w hr vs (hw κ _ hvs)⟩
theorem RR {A B:Q2}(h1:∀k,B k=none∨B k=A k)(h2:∀(j m:Nat) (l:List (AV×AV)) (e:Option (AV×AV)),B j=some (.mit (some m) l e)→B m=none→∀es,A m≠some (.mp es)):VU A B:=fun G κ w hr=>by
 refine⟨⟨hr.imm,fun id o ho=> ?_,fun id id' o o' x x' k e1 e2=>hr.inj id id' o o' x x' k ?_ ?_,hr.fin,hr.glob,fun g cs hg=>⟨(hr.gsz g cs hg).1,fun⟨id,o,x,e1,e2⟩=>(hr.gsz g cs hg).2 ⟨id,o,x,(h1 id).elim (fun h=>by rw[h]at e1;cases e1) (fun h=>by rw[←h];exact e1),e2⟩⟩,fun id cs b e E e1=>hr.typ id cs b e E ((h1 id).elim (fun h=>by rw[h]at e1;cases e1) fun h=>by rw[←h];exact e1),fun id b e E e1=>hr.tyq id b e E ((h1 id).elim (fun h=>by rw[h]at e1;cases e1) fun h=>by rw[←h];exact e1)⟩,fun b ⟨id,o,x,e1,e2⟩=>⟨id,o,x,?_,e2⟩⟩
 ·have e:A id=some o:=by
   rcases h1 id with h|h
   ·rw[h]at ho;cases ho
   ·rw[←h];exact ho
  obtain⟨b,e0,E,k1,k2⟩:=hr.obj id o e
  refine⟨b,e0,E,k1,k2.less fun m left last he=> ?_⟩
  subst he
  have k3:=k2
  simp only[VN]at k3
  obtain⟨⟨l,c,mb,me,mE,seen,_,⟨es,hes⟩,_⟩,_⟩:=k3
  rcases h1 m with h|h
  ·exact absurd hes (h2 id m left last ho h es)
  ·exact⟨es,by rw[h];exact hes⟩
 ·rcases h1 id with h|h
  ·rw[h]at e1;cases e1
  ·rw[←h];exact e1
 ·rcases h1 id' with h|h
  ·rw[h]at e2;cases e2
  ·rw[←h];exact e2
 ·rcases h1 id with h|h
  ·rw[h]at e1;cases e1
  ·rw[←h];exact e1
theorem RS {A:Q2}{id:Nat}{o:AObj}(h:A id=none)(ho:∀es,o≠ .mp es):VU (A.upd id (some o)) A:=by
 refine RR (fun k=> ?_) (fun j m l e _ hm es he=> ?_)
 ·by_cases hk:k=id
  ·subst hk;exact .inl h
  ·exact .inr (Q8 _ _ _ hk).symm
 ·by_cases hk:m=id
  ·subst hk
   simp only[Q0,cA]at he
   exact ho es he
  ·rw[Q8 _ _ _ hk,hm]at he;cases he
end Go.Ax
namespace Go.Ax.K
open Go Go.Ax
abbrev t (n:Nat):Operand:=.tmp n
abbrev fl (k n:Nat):LOp:=.fld k (.tmp n)
abbrev ld (n:Nat):LOp:=.load 1 false (.tmp n)
abbrev la (s n:Nat):LOp:=.load s true (.tmp n)
abbrev mv (n:Nat):LOp:=.mv (.tmp n)
abbrev mc (v:Value):LOp:=.mv (.const v)
abbrev bn (o:BinOp)(a b:Nat):LOp:=.bin o .num (.tmp a) (.tmp b)
abbrev bk (o:BinOp)(a:Nat)(b:Int):LOp:=.bin o .num (.tmp a) (.const (.int .i64 b))
abbrev ix (s a b:Nat):LOp:=.idxS s (.tmp a) (.tmp b)
abbrev le (n:Nat):LOp:=.lenOf .slice (.tmp n)
abbrev ca (f:Nat)(l:List Operand):LOp:=.call (.func f) l
abbrev pa (a b:Nat):LOp:=.pick (.tmp a) (.tmp b) (.const (.bool false))
abbrev po (a b:Nat):LOp:=.pick (.tmp a) (.const (.bool true)) (.tmp b)
abbrev o (d:Nat)(x:LOp):LInstr:=⟨some d,x,none⟩
abbrev gt (j d:Nat)(x:LOp):LInstr:=⟨some d,x,some (j,true)⟩
abbrev gf (j d:Nat)(x:LOp):LInstr:=⟨some d,x,some (j,false)⟩
abbrev e (x:LOp):LInstr:=⟨none,x,none⟩
abbrev v (k:Nat)(x:LInstr)(s:Sched):Sched:=.val k false x s
abbrev w (k:Nat)(x:LInstr)(s:Sched):Sched:=.val k true x s
end Go.Ax.K
