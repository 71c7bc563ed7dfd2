/- Part 7 of the proof. -/
import Derived.Test.YtcbjbgaefighcaaGreatDoorT0
import Derived.Test.YtcbjbgaefighcaaGreatDoorT6
set_option linter.all false
namespace Go.Ax
open Go
inductive Fr where
 |seq (c:LC)
 |blk (id:Nat)
 |post (J:KS)
 |sch (need:List Nat) (W:U3) (next:Sched)
structure Cx where
 P:Program
 G:Nat→Option (List AV)
 rt:List Nat
 Q:QL
 X:XE
namespace Cx
variable (C:Cx)
def kq:List Fr→QL
 |[]=>C.Q
 | .seq c::s=>HZ (fun env ds A=>WL C.P C.G C.rt c env ds A (kq s) C.X) (kq s)
 | .blk id::s=>OB id (kq s)
 | .post J::s=>HZ J (kq s)
 | .sch need W next::s=>HZ (fun env ds A=>I4 need W A∧WS C.P C.G C.rt next W env ds A (kq s .normal) C.X) (kq s)
def run (c:LC)(s:List Fr)(env:Qo)(ds:List QU)(A:Q3):Prop:=WL C.P C.G C.rt c env ds A (C.kq s) C.X
def ex (e:LExit)(s:List Fr)(env:Qo)(ds:List QU)(A:Q3):Prop:=C.kq s e env ds A
def ops (l:List LInstr)(s:List Fr)(env:Qo)(ds:List QU)(A:Q3):Prop:=YL C.P C.G C.rt l env ds A (C.kq s .normal) C.X
def sch (d:Sched)(W:U3)(s:List Fr)(env:Qo)(ds:List QU)(A:Q3):Prop:=WS C.P C.G C.rt d W env ds A (C.kq s .normal) C.X
def kv (o:Option AV)(d:Option Nat)(l:List LInstr)(s:List Fr)(env:Qo)(ds:List QU)(A:Q3):Prop:=Yu o fun v=>C.ops l s (putD env d v) ds A
def kvs (o:Option AV)(k:Nat)(rd:Bool)(i:LInstr)(d:Sched)(W:U3)(s:List Fr)(env:Qo)(ds:List QU)(A:Q3):Prop:=
 Yu o fun v=>C.sch d (if rd then(k,fun A'=>V6 C.G i env A'=some v)::W else W) s (putD env i.dst v) ds A
def cd (v:AV)(a b:LC)(s:List Fr)(env:Qo)(ds:List QU)(A:Q3):Prop:=match v with
 | .raw (.bool t)=>if t then C.run a s env ds A else C.run b s env ds A
 |_=>False
def gd (o:Option Bool)(d:Option Nat)(lo:LOp)(l:List LInstr)(s:List Fr)(env:Qo)(ds:List QU)(A:Q3):Prop:=match o with
 |some true=>C.ops (⟨d,lo,none⟩::l) s env ds A
 |some false=>C.ops l s (putD env d Ja) ds A
 |none=>False
def call (f:AV)(args:List AV)(d:Option Nat)(l:List LInstr)(s:List Fr)(env:Qo)(ds:List QU)(A:Q3):Prop:=match f with
 | .func (.func fid) first cap=>Qt C.P C.G fid (first++args++cap) A fun o A'=>match o with
  | .ret v=>C.ops l s (putD env d v) ds A'
  | .pan v=>C.X (Yy C.rt env) ds v A'
 |_=>False
def dfr (f:AV)(args:List AV)(d:Option Nat)(l:List LInstr)(s:List Fr)(env:Qo)(ds:List QU)(A:Q3):Prop:=match f with
 | .func (.func fid) first cap=>C.ops l s (putD env d Ja) ((fid,first++args++cap)::ds) A
 |_=>False
def pan (v:AV)(env:Qo)(ds:List QU)(A:Q3):Prop:=match v with
 | .iface t v=>C.X (Yy C.rt env) ds (.iface t v) A
 |_=>False
def st (a:AV)(sz:Nat)(v:AV)(d:Option Nat)(l:List LInstr)(s:List Fr)(env:Qo)(ds:List QU)(A:Q3):Prop:=match a with
 | .ptr id o=>Yu (A id) fun ob=>match ob with
  | .cells cs=>v.cells.length=sz∧o+sz≤cs.length∧v.cells.all AV.one=true∧C.ops l s (putD env d Ja) ds (A.upd id (some (.cells (W8 cs o v.cells))))
  |_=>False
 |_=>False
def st2 (ob:Option AObj)(id o sz:Nat)(v:AV)(d:Option Nat)(l:List LInstr)(s:List Fr)(env:Qo)(ds:List QU)(A:Q3):Prop:=match ob with
 |some (.cells cs)=>v.cells.length=sz∧o+sz≤cs.length∧v.cells.all AV.one=true∧C.ops l s (putD env d Ja) ds (A.upd id (some (.cells (W8 cs o v.cells))))
 |_=>False
def sl (o:Option (List AV))(sz len:Nat)(d:Option Nat)(l:List LInstr)(s:List Fr)(env:Qo)(ds:List QU)(A:Q3):Prop:=
 Yu o fun cs=>∀t,A t=none→C.ops l s (putD env d (.slice sz len cs (some t))) ds (A.upd t (some .tip))
def s2b (v:AV)(d:Option Nat)(l:List LInstr)(s:List Fr)(env:Qo)(ds:List QU)(A:Q3):Prop:=match v with
 | .str b=>C.ops l s (putD env d (.slice 1 b.length (b.map fun x=>.raw (Yz x)) none)) ds A
 |_=>False
def app (n:Option (Nat×List AV))(sz bytes:Nat)(v:AV)(d:Option Nat)(l:List LInstr)(s:List Fr)(env:Qo)(ds:List QU)(A:Q3):Prop:=
 Yu n fun(m,cs')=>match v with
  | .raw (.slice none 0 0)=>if m=0 then C.ops l s (putD env d v) ds A else m*bytes≤140737488355328∧∀t,A t=none→C.ops l s (putD env d (.slice sz m cs' (some t))) ds (A.upd t (some .tip))
  | .slice sz' n cs (some t)=>sz'=sz∧A t=some .tip∧(n+m)*bytes≤140737488355328∧cs'.all AV.one=true∧∀t',A t'=none→C.ops l s (putD env d (.slice sz (n+m) (cs++cs') (some t'))) ds ((A.upd t none).upd t' (some .tip))
  |_=>False
def appB (n:Option (Nat×List AV))(sz bytes:Nat)(v:AV)(d:Option Nat)(l:List LInstr)(s:List Fr)(env:Qo)(ds:List QU)(A:Q3):Prop:=
 Yu n fun(m,cs')=>match v with
  | .raw (.slice none 0 0)=>if m=0 then C.ops l s (putD env d v) ds A else m*bytes≤140737488355328∧∀t,A t=none→t % 2=1→C.ops l s (putD env d (.slice sz m cs' (some t))) ds (A.upd t (some .tip))
  | .slice sz' n cs (some t)=>sz'=sz∧A t=some .tip∧(n+m)*bytes≤140737488355328∧cs'.all AV.one=true∧∀t',A t'=none→(t % 2=1→t' % 2=1)→C.ops l s (putD env d (.slice sz (n+m) (cs++cs') (some t'))) ds ((A.upd t none).upd t' (some .tip))
  |_=>False
def mset (fk:FK)(k v:AV)(m:AV)(d:Option Nat)(l:List LInstr)(s:List Fr)(env:Qo)(ds:List QU)(A:Q3):Prop:=match m with
 | .map id=>Yu (A id) fun ob=>match ob with
  | .mp es=>(∀(j:Nat) (m:Option Nat) (left:List (AV×AV)) (last:Option (AV×AV)),A j=some (.mit m left last)→m≠some id)∧Yu (Oh fk k v es) fun es'=>C.ops l s (putD env d Ja) ds (A.upd id (some (.mp es')))
  |_=>False
 |_=>False
def rng (v:AV)(d:Option Nat)(l:List LInstr)(s:List Fr)(env:Qo)(ds:List QU)(A:Q3):Prop:=match v with
 | .raw (.map none)=>∀id,A id=none→C.ops l s (putD env d (.ptr id 0)) ds (A.upd id (some (.mit none [] none)))
 | .map m=>Yu (A m) fun ob=>match ob with
  | .mp es=>∀id,A id=none→C.ops l s (putD env d (.ptr id 0)) ds (A.upd id (some (.mit (some m) es none)))
  |_=>False
 |_=>False
def nxt (v:AV)(d:Option Nat)(l:List LInstr)(s:List Fr)(env:Qo)(ds:List QU)(A:Q3):Prop:=match v with
 | .ptr id 0=>Yu (A id) fun ob=>match ob with
  | .mit m left _=>(left=[]→C.ops l s (putD env d (.tuple [.raw (.bool false)])) ds A)∧
   ∀(j:Nat) (k v:AV),left[j]? =some (k,v)→C.ops l s (putD env d (.tuple [.raw (.bool true),k,v])) ds (A.upd id (some (.mit m (left.eraseIdx j) (some (k,v)))))
  |_=>False
 |_=>False
def ent (v:AV)(d:Option Nat)(l:List LInstr)(s:List Fr)(env:Qo)(ds:List QU)(A:Q3):Prop:=match v with
 | .ptr id 0=>Yu (A id) fun ob=>match ob with
  | .mit (some _) _ (some (k,v))=>C.ops l s (putD env d (.tuple [k,v])) ds A
  |_=>False
 |_=>False
def kvb (o:Option AV)(d:Option Nat)(l:List LInstr)(s:List Fr)(env:Qo)(ds:List QU)(A:Q3):Prop:=C.kv o d l s env ds A
end Cx
section
variable {C:Cx}{s:List Fr}{env:Qo}{ds:List QU}{A:Q3}{d:Option Nat}{l:List LInstr}{W:U3}
theorem Fi:C.run .skip s env ds A=C.ex .normal s env ds A:=propext Iff.rfl
theorem D9:C.run (.ops l) s env ds A=C.ops l s env ds A:=propext Iff.rfl
theorem Fk {t:Sched}:C.run (.draw t) s env ds A=C.sch t [] s env ds A:=propext Iff.rfl
theorem H8 {a b:LC}:C.run (.seq a b) s env ds A=C.run a (.seq b::s) env ds A:=propext Iff.rfl
theorem Fl {x:Operand}{a b:LC}:C.run (.cond x a b) s env ds A=C.cd (Qs C.G env x) a b s env ds A:=propext Iff.rfl
theorem Xh {id:Nat}{a:LC}:C.run (.block id a) s env ds A=C.run a (.blk id::s) env ds A:=propext Iff.rfl
theorem Fj {id:Nat}:C.run (.exit id) s env ds A=C.ex (.exit id) s env ds A:=propext Iff.rfl
theorem D7:C.run .ret s env ds A=C.ex .ret s env ds A:=propext Iff.rfl
theorem Qv {c:LC}(I:Nat→Qo→List QU→Q3→Prop)(n:Nat)(h:I n env ds A)(hr:∀n env ds A,I n env ds A→C.run c (.post (fun env ds A=>∃m,m<n∧I m env ds A)::s) env ds A):C.run (.loop c) s env ds A:=⟨I,⟨n,h⟩,hr⟩
theorem ex_nil {e:LExit}:C.ex e [] env ds A=C.Q e env ds A:=propext Iff.rfl
theorem Oz {c:LC}:C.ex .normal (.seq c::s) env ds A=C.run c s env ds A:=propext Iff.rfl
theorem PE {c:LC}:C.ex .ret (.seq c::s) env ds A=C.ex .ret s env ds A:=propext Iff.rfl
theorem RM {c:LC}{j:Nat}:C.ex (.exit j) (.seq c::s) env ds A=C.ex (.exit j) s env ds A:=propext Iff.rfl
theorem jW {id:Nat}:C.ex .normal (.blk id::s) env ds A=C.ex .normal s env ds A:=propext Iff.rfl
theorem PF {id:Nat}:C.ex .ret (.blk id::s) env ds A=C.ex .ret s env ds A:=propext Iff.rfl
theorem RO {id j:Nat}:C.ex (.exit j) (.blk id::s) env ds A=if j=id then C.ex .normal s env ds A else C.ex (.exit j) s env ds A:=by
 simp only[Cx.ex,Cx.kq,OB];split <;> rfl
theorem Cj {J:KS}:C.ex .normal (.post J::s) env ds A=J env ds A:=propext Iff.rfl
theorem RN {J:KS}:C.ex .ret (.post J::s) env ds A=C.ex .ret s env ds A:=propext Iff.rfl
theorem Rv {J:KS}{j:Nat}:C.ex (.exit j) (.post J::s) env ds A=C.ex (.exit j) s env ds A:=propext Iff.rfl
theorem jV {need:List Nat}{t:Sched}:C.ex .normal (.sch need W t::s) env ds A=(I4 need W A∧C.sch t W s env ds A):=propext Iff.rfl
theorem SO {a b:LC}:C.cd (.raw (.bool true)) a b s env ds A=C.run a s env ds A:=propext Iff.rfl
theorem Rm {a b:LC}:C.cd (.raw (.bool false)) a b s env ds A=C.run b s env ds A:=propext Iff.rfl
theorem Es {t:Bool}{a b:LC}:C.cd (.raw (.bool t)) a b s env ds A=if t=true then C.run a s env ds A else C.run b s env ds A:=propext Iff.rfl
theorem H9:C.ops [] s env ds A=C.ex .normal s env ds A:=propext Iff.rfl
theorem zV {lo:LOp}{j:Nat}{w:Bool}:C.ops (⟨d,lo,some (j,w)⟩::l) s env ds A=C.gd (UQ w (env j)) d lo l s env ds A:=by
 simp only[Cx.ops,YL,YJ,Cx.gd]
 split <;> rename_i h <;> simp [h]
theorem gd_true {lo:LOp}:C.gd (some true) d lo l s env ds A=C.ops (⟨d,lo,none⟩::l) s env ds A:=propext Iff.rfl
theorem E8 {lo:LOp}:C.gd (some false) d lo l s env ds A=C.ops l s (putD env d Ja) ds A:=propext Iff.rfl
theorem kL {t:Bool}{lo:LOp}:C.gd (some t) d lo l s env ds A=if t=true then C.ops (⟨d,lo,none⟩::l) s env ds A else C.ops l s (putD env d Ja) ds A:=by cases t <;> rfl
theorem Ro {b w:Bool}:UQ w (.raw (.bool b))=some (b==w):=rfl
theorem MP {w:Bool}:UQ w Ja=some false:=rfl
theorem ops_val {lo:LOp}(h:lo.isV=true):C.ops (⟨d,lo,none⟩::l) s env ds A=C.kv (Qw C.G env A lo) d l s env ds A:=by
 simp only[Cx.ops,YL,YJ,LR h,Cx.kv]
theorem zT {x:Operand}:C.ops (⟨d,.mv x,none⟩::l) s env ds A=C.ops l s (putD env d (Qs C.G env x)) ds A:=propext Iff.rfl
theorem Fz {x:Operand}:C.ops (⟨d,.nchk x,none⟩::l) s env ds A=C.kv (Qw C.G env A (.nchk x)) d l s env ds A:=propext Iff.rfl
theorem Fy {c a b:Operand}:C.ops (⟨d,.pick c a b,none⟩::l) s env ds A=C.kv (Qw C.G env A (.pick c a b)) d l s env ds A:=propext Iff.rfl
theorem Dw {o:BinOp}{k:BK}{x y:Operand}:C.ops (⟨d,.bin o k x y,none⟩::l) s env ds A=C.kvb (Qw C.G env A (.bin o k x y)) d l s env ds A:=propext Iff.rfl
theorem zR {o:UnOp}{x:Operand}:C.ops (⟨d,.un o x,none⟩::l) s env ds A=C.kv (Qw C.G env A (.un o x)) d l s env ds A:=propext Iff.rfl
theorem FG {k:IntKind}{x:Operand}:C.ops (⟨d,.conv k x,none⟩::l) s env ds A=C.kv (Qw C.G env A (.conv k x)) d l s env ds A:=propext Iff.rfl
theorem Fx {x:Operand}:C.ops (⟨d,.same x,none⟩::l) s env ds A=C.kv (Qw C.G env A (.same x)) d l s env ds A:=propext Iff.rfl
theorem Dx {x:Operand}:C.ops (⟨d,.b2s x,none⟩::l) s env ds A=C.kv (Qw C.G env A (.b2s x)) d l s env ds A:=propext Iff.rfl
theorem Dr {o:Nat}{x:Operand}:C.ops (⟨d,.fld o x,none⟩::l) s env ds A=C.kv (Qw C.G env A (.fld o x)) d l s env ds A:=propext Iff.rfl
theorem G8 {o sz:Nat}{g:Bool}{x:Operand}:C.ops (⟨d,.field o sz g x,none⟩::l) s env ds A=C.kv (Qw C.G env A (.field o sz g x)) d l s env ds A:=propext Iff.rfl
theorem FF {n sz:Nat}{x i:Operand}:C.ops (⟨d,.idxP n sz x i,none⟩::l) s env ds A=C.kv (Qw C.G env A (.idxP n sz x i)) d l s env ds A:=propext Iff.rfl
theorem FE {sz:Nat}{x i:Operand}:C.ops (⟨d,.idxS sz x i,none⟩::l) s env ds A=C.kv (Qw C.G env A (.idxS sz x i)) d l s env ds A:=propext Iff.rfl
theorem FD {n sz:Nat}{g:Bool}{x i:Operand}:C.ops (⟨d,.idxV n sz g x i,none⟩::l) s env ds A=C.kv (Qw C.G env A (.idxV n sz g x i)) d l s env ds A:=propext Iff.rfl
theorem Pn {x i:Operand}:C.ops (⟨d,.idxStr x i,none⟩::l) s env ds A=C.kv (Qw C.G env A (.idxStr x i)) d l s env ds A:=propext Iff.rfl
theorem FC {sz:Nat}{g:Bool}{x:Operand}:C.ops (⟨d,.load sz g x,none⟩::l) s env ds A=C.kv (Qw C.G env A (.load sz g x)) d l s env ds A:=propext Iff.rfl
theorem Ds {x:Operand}{i:Nat}:C.ops (⟨d,.ext x i,none⟩::l) s env ds A=C.kv (Qw C.G env A (.ext x i)) d l s env ds A:=propext Iff.rfl
theorem G9 {z:List Value}{ps:List (Nat×Nat×Operand)}:C.ops (⟨d,.build z ps,none⟩::l) s env ds A=C.kv (Qw C.G env A (.build z ps)) d l s env ds A:=propext Iff.rfl
theorem Dp {t:TypeId}{x:Operand}:C.ops (⟨d,.mkI t x,none⟩::l) s env ds A=C.kv (Qw C.G env A (.mkI t x)) d l s env ds A:=propext Iff.rfl
theorem Dq {f:Fn}{a c:List Operand}:C.ops (⟨d,.mkF f a c,none⟩::l) s env ds A=C.kv (Qw C.G env A (.mkF f a c)) d l s env ds A:=propext Iff.rfl
theorem G5 {x:Operand}{lo hi:Option Operand}:C.ops (⟨d,.slStr x lo hi,none⟩::l) s env ds A=C.kv (Qw C.G env A (.slStr x lo hi)) d l s env ds A:=propext Iff.rfl
theorem Fw {sz:Nat}{x:Operand}{lo hi:Option Operand}:C.ops (⟨d,.slSl sz x lo hi,none⟩::l) s env ds A=C.kv (Qw C.G env A (.slSl sz x lo hi)) d l s env ds A:=propext Iff.rfl
theorem G7 {k:LK}{x:Operand}:C.ops (⟨d,.lenOf k x,none⟩::l) s env ds A=C.kv (Qw C.G env A (.lenOf k x)) d l s env ds A:=propext Iff.rfl
theorem zU {m:Bool}{x y:Operand}:C.ops (⟨d,.mm m x y,none⟩::l) s env ds A=C.kv (Qw C.G env A (.mm m x y)) d l s env ds A:=propext Iff.rfl
theorem Dk {t:TypeId}{z:Value}{x:Operand}:C.ops (⟨d,.tas t z x,none⟩::l) s env ds A=C.kv (Qw C.G env A (.tas t z x)) d l s env ds A:=propext Iff.rfl
theorem FB {fk:FK}{ok:Bool}{z:Value}{m k:Operand}:C.ops (⟨d,.look fk ok z m k,none⟩::l) s env ds A=C.kv (Qw C.G env A (.look fk ok z m k)) d l s env ds A:=propext Iff.rfl
theorem DQ {v:AV}:C.kv (some v) d l s env ds A=C.ops l s (putD env d v) ds A:=propext Iff.rfl
theorem DP {k:IntKind}{n:Int}:C.kvb (some (.raw (.int k n))) d l s env ds A=C.ops l s (putD env d (.raw (.int k n))) ds A:=propext Iff.rfl
theorem DO {b:List UInt8}:C.kvb (some (.str b)) d l s env ds A=C.ops l s (putD env d (.str b)) ds A:=propext Iff.rfl
theorem HO {t:Bool}:C.kvb (some (.raw (.bool t))) d l s env ds A=((t=true→C.ops l s (putD env d (.raw (.bool true))) ds A)∧(t=false→C.ops l s (putD env d (.raw (.bool false))) ds A)):=by
 cases t <;> simp [Cx.kvb,Cx.kv]
theorem Ga {e:TypeId}{z:List Value}(he:(@BEq.beq Nat _ e 102)=false):C.ops (⟨d,.alloc e z,none⟩::l) s env ds A=∀id,A id=none→C.ops l s (putD env d (.ptr id 0)) ds (A.upd id (some (.cells (z.map Ze)))):=by
 have hne:¬e=Ol:=fun h=>by subst h;exact absurd he (by decide)
 exact propext ⟨fun h id hi=>h id hi fun h=>absurd h hne,fun h id hi _=>h id hi⟩
theorem Pp {z:List Value}:C.ops (⟨d,.alloc 102 z,none⟩::l) s env ds A=∀id,A id=none→id % 2=1→C.ops l s (putD env d (.ptr id 0)) ds (A.upd id (some (.cells (z.map Ze)))):=
 propext ⟨fun h id hi ho=>h id hi fun _=>ho,fun h id hi ho=>h id hi (ho rfl)⟩
theorem Dv {e:TypeId}{x:Operand}:C.ops (⟨d,.box e x,none⟩::l) s env ds A=∀id,A id=none→C.ops l s (putD env d (.ptr id 0)) ds (A.upd id (some (.cells (Qs C.G env x).cells))):=propext Iff.rfl
theorem G4 {sz:Nat}{a v:Operand}:C.ops (⟨d,.store sz a v,none⟩::l) s env ds A=C.st (Qs C.G env a) sz (Qs C.G env v) d l s env ds A:=propext Iff.rfl
theorem zB {id o sz:Nat}{v:AV}:C.st (.ptr id o) sz v d l s env ds A=C.st2 (A id) id o sz v d l s env ds A:=by
 simp only[Cx.st,Cx.st2]
 cases A id with
 |none=>rfl
 |some ob=>cases ob <;> rfl
theorem Z6 {id o sz:Nat}{v:AV}{cs:List AV}(h1:v.cells.length=sz)(h2:o+sz≤cs.length)(h3:v.cells.all AV.one=true):C.st2 (some (.cells cs)) id o sz v d l s env ds A=C.ops l s (putD env d Ja) ds (A.upd id (some (.cells (W8 cs o v.cells)))):=by
 simp only[Cx.st2,h1,h2,h3,true_and]
theorem Po {e sz len:Nat}{z:List Value}{ps:List (Nat×Operand)}:C.ops (⟨d,.bslice e sz len z ps,none⟩::l) s env ds A=C.sl (Xz sz len z (ps.map fun(i,x)=>(i,Qs C.G env x))) sz len d l s env ds A:=propext Iff.rfl
theorem sl_some {cs:List AV}{sz len:Nat}:C.sl (some cs) sz len d l s env ds A=∀t,A t=none→C.ops l s (putD env d (.slice sz len cs (some t))) ds (A.upd t (some .tip)):=propext Iff.rfl
theorem Dl {e:TypeId}{x:Operand}:C.ops (⟨d,.s2b e x,none⟩::l) s env ds A=C.s2b (Qs C.G env x) d l s env ds A:=propext Iff.rfl
theorem D6 {b:List UInt8}:C.s2b (.str b) d l s env ds A=C.ops l s (putD env d (.slice 1 b.length (b.map fun x=>.raw (Yz x)) none)) ds A:=propext Iff.rfl
theorem Dy {e sz bytes:Nat}{x y:Operand}(he:(@BEq.beq Nat _ e 5)=false):C.ops (⟨d,.app e sz bytes x y,none⟩::l) s env ds A=C.app (UO sz (Qs C.G env y)) sz bytes (Qs C.G env x) d l s env ds A:=by
 have hne:(e=Wv)=False:=eq_false fun h=>by subst h;exact absurd he (by decide)
 simp only[Cx.ops,YL,YJ,VB,LH,Cx.app,hne,false_implies,true_implies]
 cases UO sz (Qs C.G env y)with
 |none=>rfl
 |some p=>
  obtain⟨m,cs⟩:=p
  simp only[Jp]
  generalize Qs C.G env x=v
  split <;> first|rfl|simp_all
theorem TY {sz bytes:Nat}{x y:Operand}:C.ops (⟨d,.app 5 sz bytes x y,none⟩::l) s env ds A=C.appB (UO sz (Qs C.G env y)) sz bytes (Qs C.G env x) d l s env ds A:=by
 have hne:((5:Nat)=Wv)=True:=eq_true rfl
 simp only[Cx.ops,YL,YJ,VB,LH,Cx.appB,hne,true_implies]
 cases UO sz (Qs C.G env y)with
 |none=>rfl
 |some p=>
  obtain⟨m,cs⟩:=p
  simp only[Jp]
  generalize Qs C.G env x=v
  split <;> first|rfl|simp_all
theorem Ev {m sz bytes:Nat}{cs:List AV}:C.appB (some (m,cs)) sz bytes (.raw (.slice none 0 0)) d l s env ds A=if m=0 then C.ops l s (putD env d (.raw (.slice none 0 0))) ds A else m*bytes≤140737488355328∧∀t,A t=none→t % 2=1→C.ops l s (putD env d (.slice sz m cs (some t))) ds (A.upd t (some .tip)):=propext Iff.rfl
theorem Eu {m sz sz' bytes n t:Nat}{cs cs':List AV}:C.appB (some (m,cs')) sz bytes (.slice sz' n cs (some t)) d l s env ds A=(sz'=sz∧A t=some .tip∧(n+m)*bytes≤140737488355328∧cs'.all AV.one=true∧∀t',A t'=none→(t % 2=1→t' % 2=1)→C.ops l s (putD env d (.slice sz (n+m) (cs++cs') (some t'))) ds ((A.upd t none).upd t' (some .tip))):=propext Iff.rfl
theorem W2 {m sz bytes:Nat}{cs:List AV}:C.app (some (m,cs)) sz bytes (.raw (.slice none 0 0)) d l s env ds A=if m=0 then C.ops l s (putD env d (.raw (.slice none 0 0))) ds A else m*bytes≤140737488355328∧∀t,A t=none→C.ops l s (putD env d (.slice sz m cs (some t))) ds (A.upd t (some .tip)):=propext Iff.rfl
theorem V9 {m sz sz' bytes n t:Nat}{cs cs':List AV}:C.app (some (m,cs')) sz bytes (.slice sz' n cs (some t)) d l s env ds A=(sz'=sz∧A t=some .tip∧(n+m)*bytes≤140737488355328∧cs'.all AV.one=true∧∀t',A t'=none→C.ops l s (putD env d (.slice sz (n+m) (cs++cs') (some t'))) ds ((A.upd t none).upd t' (some .tip))):=propext Iff.rfl
theorem FH {f:Operand}{args:List Operand}:C.ops (⟨d,.call f args,none⟩::l) s env ds A=C.call (Qs C.G env f) (args.map (Qs C.G env)) d l s env ds A:=propext Iff.rfl
theorem Du {f:Operand}{args:List Operand}:C.ops (⟨d,.dfr f args,none⟩::l) s env ds A=C.dfr (Qs C.G env f) (args.map (Qs C.G env)) d l s env ds A:=propext Iff.rfl
theorem Ei {f:FuncId}{first args cap:List AV}:C.dfr (.func (.func f) first cap) args d l s env ds A=C.ops l s (putD env d Ja) ((f,first++args++cap)::ds) A:=propext Iff.rfl
theorem Dn {x:Operand}:C.ops (⟨d,.pan x,none⟩::l) s env ds A=C.pan (Qs C.G env x) env ds A:=propext Iff.rfl
theorem G2 {t:TypeId}{v:AV}:C.pan (.iface t v) env ds A=C.X (Yy C.rt env) ds (.iface t v) A:=propext Iff.rfl
theorem G6:C.ops (⟨d,.mkMap,none⟩::l) s env ds A=∀id,A id=none→(∀(j:Nat) (m:Option Nat) (left:List (AV×AV)) (last:Option (AV×AV)),A j=some (.mit m left last)→m≠some id)→C.ops l s (putD env d (.map id)) ds (A.upd id (some (.mp []))):=propext Iff.rfl
theorem FA {fk:FK}{k v m:Operand}:C.ops (⟨d,.mset fk k v m,none⟩::l) s env ds A=C.mset fk (Qs C.G env k) (Qs C.G env v) (Qs C.G env m) d l s env ds A:=propext Iff.rfl
theorem Dm {x:Operand}:C.ops (⟨d,.rng x,none⟩::l) s env ds A=C.rng (Qs C.G env x) d l s env ds A:=propext Iff.rfl
theorem Do {x:Operand}:C.ops (⟨d,.nxt x,none⟩::l) s env ds A=C.nxt (Qs C.G env x) d l s env ds A:=propext Iff.rfl
theorem Dt {x:Operand}:C.ops (⟨d,.ent x,none⟩::l) s env ds A=C.ent (Qs C.G env x) d l s env ds A:=propext Iff.rfl
theorem Ff:C.sch .done W s env ds A=C.ex .normal s env ds A:=propext Iff.rfl
theorem D3:C.sch .nil W s env ds A=True:=propext Iff.rfl
theorem D2 {k:Nat}{rd:Bool}{i:LInstr}{t:Sched}:C.sch (.val k rd i t) W s env ds A=C.kvs (V6 C.G i env A) k rd i t W s env ds A:=propext Iff.rfl
theorem E2 {v:AV}{k:Nat}{i:LInstr}{t:Sched}:C.kvs (some v) k false i t W s env ds A=C.sch t W s (putD env i.dst v) ds A:=propext Iff.rfl
theorem RL {v:AV}{k:Nat}{i:LInstr}{t:Sched}:C.kvs (some v) k true i t W s env ds A=C.sch t ((k,fun A'=>V6 C.G i env A'=some v)::W) s (putD env i.dst v) ds A:=propext Iff.rfl
theorem D5 {i:LInstr}{need:List Nat}{t o:Sched}:C.sch (.eff i need t o) W s env ds A=(C.ops [i] (.sch need W t::s) env ds A∧C.sch o W s env ds A):=propext Iff.rfl
theorem PI {G:Nat→Option (List AV)}{lo:LOp}:V6 G ⟨d,lo,none⟩ env A=Qw G env A lo:=rfl
def evG (G:Nat→Option (List AV))(o:Option Bool)(lo:LOp)(env:Qo)(A:Q3):Option AV:=match o with
 |some true=>Qw G env A lo
 |some false=>some Ja
 |none=>none
theorem PG {G:Nat→Option (List AV)}{lo:LOp}{j:Nat}{w:Bool}:V6 G ⟨d,lo,some (j,w)⟩ env A=evG G (UQ w (env j)) lo env A:=by
 simp only[V6,evG]
 split <;> simp_all
theorem Ef {G:Nat→Option (List AV)}{lo:LOp}:evG G (some true) lo env A=Qw G env A lo:=rfl
theorem Gx {G:Nat→Option (List AV)}{lo:LOp}:evG G (some false) lo env A=some Ja:=rfl
theorem NZ {v:AV}:putD env none v=env:=rfl
theorem JH {t u:Nat}{v:AV}:putD env (some t) v u=if u=t then v else env u:=rfl
theorem Dz {G:Nat→Option (List AV)}{t:Nat}:Qs G env (.tmp t)=env t:=rfl
theorem kI {G:Nat→Option (List AV)}{f:FuncId}:Qs G env (.func f)=.func (.func f) [] []:=rfl
theorem JY {o:Option AV}{v:AV}(h:o=some v)(k:C.ops l s (putD env d v) ds A):C.kv o d l s env ds A:=by subst h;exact k
theorem kvb_of {o:Option AV}{v:AV}(h:o=some v)(k:C.ops l s (putD env d v) ds A):C.kvb o d l s env ds A:=by subst h;exact k
theorem QY {o:Option (List AV)}{cs:List AV}{sz len:Nat}(h:o=some cs)(k:∀t,A t=none→C.ops l s (putD env d (.slice sz len cs (some t))) ds (A.upd t (some .tip))):C.sl o sz len d l s env ds A:=by subst h;exact k
theorem QV {o:Option AV}{v:AV}{k:Nat}{rd:Bool}{i:LInstr}{t:Sched}(h:o=some v)(hk:C.sch t (if rd then(k,fun A'=>V6 C.G i env A'=some v)::W else W) s (putD env i.dst v) ds A):C.kvs o k rd i t W s env ds A:=by subst h;exact hk
theorem Qk {f:FuncId}{first args cap:List AV}{K:Out→Q3→Prop}(h:Qt C.P C.G f (first++args++cap) A K)
 (hk:∀o A',K o A'→match o with
  | .ret v=>C.ops l s (putD env d v) ds A'
  | .pan v=>C.X (Yy C.rt env) ds v A'):C.call (.func (.func f) first cap) args d l s env ds A:=h.mono hk
def Qu (P:Program)(G:Nat→Option (List AV))(f:FuncId)(args:List AV)(A:Q3)(v:AV)(A':Q3):Prop:=Qt P G f args A fun o A1=>o=.ret v∧A1=A'
def Pan (P:Program)(G:Nat→Option (List AV))(f:FuncId)(args:List AV)(A:Q3)(v:AV)(A':Q3):Prop:=Qt P G f args A fun o A1=>o=.pan v∧A1=A'
theorem Q2 {f:FuncId}{first args cap:List AV}{v:AV}{A':Q3}(h:Qu C.P C.G f (first++args++cap) A v A')(hk:C.ops l s (putD env d v) ds A'):C.call (.func (.func f) first cap) args d l s env ds A:=
 Qk h fun _ _ ⟨h1,h2⟩=>by subst h1;subst h2;exact hk
theorem kN {f:FuncId}{first args cap:List AV}{v:AV}{A':Q3}(h:Pan C.P C.G f (first++args++cap) A v A')(hk:C.X (Yy C.rt env) ds v A'):C.call (.func (.func f) first cap) args d l s env ds A:=
 Qk h fun _ _ ⟨h1,h2⟩=>by subst h1;subst h2;exact hk
end
def Cx.of (P:Program)(G:Nat→Option (List AV))(dfr:Bool)(res:List LRes)(K:Out→Q3→Prop):Cx:=⟨P,G,U8 dfr res,Lb P G ⟨0,dfr,res,.skip⟩ K,Ow P G ⟨0,dfr,res,.skip⟩ K⟩
theorem Q4 {P:Program}{G:Nat→Option (List AV)}{f:FuncId}{n:Nat}{dfr:Bool}{res:List LRes}{c:LC}(hl:Q8 P f=some ⟨n,dfr,res,c⟩){args:List AV}{A:Q3}{K:Out→Q3→Prop}(hn:args.length≤n)
 (h:(Cx.of P G dfr res K).run c [] (Jw args) [] A):Qt P G f args A K:=MV hl ⟨hn,h⟩
section
variable {P:Program}{G:Nat→Option (List AV)}{dfr:Bool}{res:List LRes}{K:Out→Q3→Prop}{env:Qo}{ds:List QU}{A:Q3}{v:AV}
theorem of_P:(Cx.of P G dfr res K).P=P:=rfl
theorem of_G:(Cx.of P G dfr res K).G=G:=rfl
theorem zZ:(Cx.of P G dfr res K).ex .ret [] env [] A=Vx res env K none A:=propext Iff.rfl
theorem Gg:(Cx.of P G dfr res K).ex .normal [] env [] A=Vx res env K none A:=propext Iff.rfl
theorem FU:(Cx.of P G dfr res K).ex .ret [] env ds A=XP P G ds none A (Vx res env K):=propext Iff.rfl
theorem RI:(Cx.of P G dfr res K).ex .normal [] env ds A=XP P G ds none A (Vx res env K):=propext Iff.rfl
theorem XF:(Cx.of P G false res K).X env [] v A=∃A',U2 A A'∧K (.pan v) A':=by simp [Cx.of,Ow]
theorem FV:(Cx.of P G true res K).X env ds v A=XP P G ds (some v) A (Vx res env K):=propext Iff.rfl
end
def Vl (o:Option AV)(K:Out→Q3→Prop)(A:Q3):Prop:=∃v v' A',o=some v∧Wk v v'∧U2 A A'∧K (.ret v') A'
theorem IY {res:List LRes}{env:Qo}{K:Out→Q3→Prop}{A:Q3}:Vx res env K none A=Vl (Kr res env A) K A:=rfl
theorem J0 {K:Out→Q3→Prop}{A A':Q3}{v v':AV}(h:Wk v v')(hA:U2 A A')(hK:K (.ret v') A'):Vl (some v) K A:=⟨v,v',A',rfl,h,hA,hK⟩
theorem Qx {A A':Q3}{v v':AV}(h:v=v')(hA:U2 A A'):Vl (some v) (fun o A1=>o=.ret v'∧A1=A') A:=⟨v,v',A',rfl,h▸Wk.refl _,hA,rfl,rfl⟩
theorem Fq {t:Nat}{env:Qo}{A:Q3}:Kr [.tmp t] env A=some (env t):=rfl
theorem QQ {env:Qo}{A:Q3}:Kr [] env A=some (.tuple []):=rfl
theorem vZ {res:List LRes}{env:Qo}{K:Out→Q3→Prop}{A A':Q3}{v v':AV}(h1:Kr res env A=some v)(h2:Wk v v')(h3:U2 A A')(h4:K (.ret v') A'):Vx res env K none A:=⟨v,v',A',h1,h2,h3,h4⟩
section
variable {P:Program}{G:Nat→Option (List AV)}{rt:List Nat}
theorem OU {K K':KS}{X:XE}(hk:∀env ds A,K env ds A→K' env ds A):∀(l:List LInstr) (env:Qo) (ds:List QU) (A:Q3),YL P G rt l env ds A K X→YL P G rt l env ds A K' X
 |[],_,_,_,h=>hk _ _ _ h
 |i::r,env,ds,A,h=>by
  simp only[YL]at h⊢
  exact XL (fun env' ds' A' h=>OU hk r env' ds' A' h) h
theorem Hg {K K':KS}{X:XE}(hk:∀env ds A,K env ds A→K' env ds A):∀(s:Sched) (W:U3) (env:Qo) (ds:List QU) (A:Q3),WS P G rt s W env ds A K X→WS P G rt s W env ds A K' X
 | .done,_,_,_,_,h=>hk _ _ _ h
 | .nil,_,_,_,_,h=>h
 | .val k rd i r,W,env,ds,A,h=>by
  simp only[WS]at h⊢
  exact Vt (fun v _ h=>Hg hk r _ _ _ _ h) h
 | .eff i need a b,W,env,ds,A,h=>by
  simp only[WS]at h⊢
  exact⟨XL (fun env' ds' A' h=>⟨h.1,Hg hk a _ _ _ _ h.2⟩) h.1,Hg hk b _ _ _ _ h.2⟩
theorem Vz {X:XE}:∀(c:LC) (Q Q':QL),(∀e env ds A,Q e env ds A→Q' e env ds A)→∀(env:Qo) (ds:List QU) (A:Q3),WL P G rt c env ds A Q X→WL P G rt c env ds A Q' X
 | .skip,_,_,hq,_,_,_,h=>hq _ _ _ _ h
 | .ops l,_,_,hq,env,ds,A,h=>OU (hq .normal) l env ds A h
 | .draw s,_,_,hq,env,ds,A,h=>Hg (hq .normal) s [] env ds A h
 | .seq a b,Q,Q',hq,env,ds,A,h=>by
  simp only[WL]at h⊢
  refine Vz a _ _ (fun e env ds A h=> ?_) env ds A h
  cases e with
  |normal=>exact Vz b Q Q' hq env ds A h
  |exit j=>exact hq (.exit j) env ds A h
  |ret=>exact hq .ret env ds A h
 | .cond x a b,Q,Q',hq,env,ds,A,h=>by
  simp only[WL]at h⊢
  split at h
  ·split at h
   ·rename_i ht;rw[fC ht];exact Vz a Q Q' hq env ds A h
   ·rename_i ht;rw[fD ht];exact Vz b Q Q' hq env ds A h
  ·exact h
 | .block id c,Q,Q',hq,env,ds,A,h=>by
  simp only[WL]at h⊢
  refine Vz c _ _ (fun e env ds A h=> ?_) env ds A h
  cases e with
  |normal=>exact hq .normal env ds A h
  |exit j=>
   simp only[OB]at h⊢
   split at h
   ·rename_i hj;rw[fC hj];exact hq .normal env ds A h
   ·rename_i hj;rw[fD hj];exact hq (.exit j) env ds A h
  |ret=>exact hq .ret env ds A h
 | .loop c,Q,Q',hq,env,ds,A,h=>by
  simp only[WL]at h⊢
  obtain⟨I,h0,hr⟩:=h
  refine⟨I,h0,fun n env ds A hI=>Vz c _ _ (fun e env ds A h=> ?_) env ds A (hr n env ds A hI)⟩
  cases e with
  |normal=>exact h
  |exit j=>exact hq (.exit j) env ds A h
  |ret=>exact hq .ret env ds A h
 | .exit id,_,_,hq,env,ds,A,h=>hq (.exit id) env ds A h
 | .ret,_,_,hq,env,ds,A,h=>hq .ret env ds A h
end
theorem Qd {C:Cx}{a b:LC}{s:List Fr}{env:Qo}{ds:List QU}{A:Q3}(M:KS)(h1:C.run a (.post M::s) env ds A)(h2:∀env ds A,M env ds A→C.run b s env ds A):C.run (.seq a b) s env ds A:=by
 rw[H8]
 refine Vz a _ _ (fun e env ds A h=> ?_) env ds A h1
 cases e with
 |normal=>exact h2 env ds A h
 |exit j=>exact h
 |ret=>exact h
theorem Ny {C:Cx}{c:LC}{s:List Fr}{env:Qo}{ds:List QU}{A:Q3}(h:C.run c s env ds A):C.ex .normal (.seq c::s) env ds A:=by rw[Oz];exact h
theorem Qr {b:Bool}:(b==true)=b:=by cases b <;> rfl
theorem Qm {b:Bool}:(b==false)= !b:=by cases b <;> rfl
def Ji:=And.intro @Fi<|And.intro @D9<|And.intro @Fk<|And.intro @H8<|And.intro @Fl<|And.intro @Xh<|And.intro @Fj<|And.intro @D7<|And.intro @Oz<|And.intro @PE<|And.intro @RM<|
 And.intro @jW<|And.intro @PF<|And.intro @RO<|And.intro @Cj<|And.intro @RN<|And.intro @Rv<|And.intro @jV<|And.intro @SO<|And.intro @Rm<|And.intro @H9<|And.intro @zV<|And.intro @gd_true<|And.intro @E8<|
 And.intro @Ro<|And.intro @MP<|And.intro @Ff<|And.intro @D3<|And.intro @D2<|And.intro @E2<|And.intro @RL<|And.intro @D5<|And.intro @PI<|And.intro @PG<|And.intro @Ef<|And.intro @Gx<|
 And.intro @of_P<|And.intro @of_G<|And.intro @zZ<|And.intro @Gg<|And.intro @NZ<|And.intro @JH<|And.intro @IY<|And.intro @Fq<|@QQ
def Jh:=And.intro @zT<|And.intro @DQ<|And.intro @DP<|And.intro @DO<|And.intro @HO<|And.intro @Fz<|And.intro @Fy<|And.intro @Dw<|And.intro @zR<|And.intro @FG<|And.intro @Fx<|And.intro @Dx<|And.intro @Dr<|And.intro @G8<|And.intro @FF<|
 And.intro @FE<|And.intro @FD<|And.intro @Pn<|And.intro @FC<|And.intro @Ds<|And.intro @G9<|And.intro @Dp<|And.intro @Dq<|And.intro @G5<|And.intro @Fw<|And.intro @G7<|And.intro @zU<|And.intro @Dk<|And.intro @FB<|
 And.intro @G4<|And.intro @zB<|And.intro @Dl<|And.intro @D6<|And.intro @Dy<|And.intro @FH<|And.intro @Du<|And.intro @Ei<|And.intro @Dn<|And.intro @G2<|And.intro @FA<|And.intro @Dm<|And.intro @Do<|And.intro @Dt<|And.intro @Po<|
 @Dz
theorem Qg {n:Int}(h1: -9223372036854775808≤n)(h2:n<9223372036854775808):IntKind.i64.wrap n=n:=by
 unfold IntKind.wrap
 simp [IntKind.bits,IntKind.signed]
 omega
theorem kA {t:Bool}:(t==false)= !t:=by cases t <;> rfl
abbrev i64 (n:Int):AV:=.raw (.int .i64 n)
abbrev u8 (c:UInt8):AV:=.raw (.int .u8 c.toNat)
abbrev bo (b:Bool):AV:=.raw (.bool b)
abbrev ZK:AV:=.tuple []
abbrev LD (l:List (List UInt8)):AV:=.slice 1 l.length (l.map .str) none
theorem Ym {sz n:Nat}{cs:List AV}{tip:Option Nat}:Wk (.slice sz n cs tip) (.slice sz n cs none):=fun κ u h=>by
 simp only[Qc]at h⊢
 rcases h with⟨_,h2,h3,h4⟩|⟨b,o,cap,h1,h2,h3,h4,_⟩
 ·exact .inl ⟨trivial,h2,h3,h4⟩
 ·exact .inr ⟨b,o,cap,h1,h2,h3,h4,fun t ht=>by cases ht⟩
theorem Jm {sz:Nat}:Wk (.raw (.slice none 0 0)) (.slice sz 0 [] none):=fun κ u h=>by
 simp only[Qc]at h⊢
 exact .inl ⟨trivial,trivial,trivial,none,h⟩
def Xy (as bs:List AV):Prop:=∀κ us,Qi κ as us→Qi κ bs us
theorem Xy.nil:Xy [] []:=fun _ _ h=>h
theorem Xy.cons {a b:AV}{as bs:List AV}(h:Wk a b)(hs:Xy as bs):Xy (a::as) (b::bs):=fun κ us hr=>by
 simp only[Qi]at hr⊢
 obtain⟨x,xs,h1,h2,h3⟩:=hr
 exact⟨x,xs,h1,h κ x h2,hs κ xs h3⟩
theorem Qt.wk {P:Program}{G:Nat→Option (List AV)}{f:FuncId}{as bs:List AV}{A:Q3}{K:Out→Q3→Prop}(hw:Xy as bs)(h:Qt P G f bs A K):Qt P G f as A K:=
 ⟨h.1,fun κ w hr vs hvs=>h.2 κ w hr vs (hw κ _ hvs)⟩
theorem Se {A B:Q3}(h1:∀k,B k=none∨B k=A k)(h2:∀(j m:Nat) (l:List (AV×AV)) (e:Option (AV×AV)),B j=some (.mit (some m) l e)→B m=none→∀es,A m≠some (.mp es)):U2 A B:=fun G κ w hr=>by
 refine⟨⟨hr.imm,fun id o ho=> ?_,fun id id' o o' x x' k e1 e2=>hr.inj id id' o o' x x' k ?_ ?_,hr.fin,hr.glob,fun g cs hg=>⟨(hr.gsz g cs hg).1,fun⟨id,o,x,e1,e2⟩=>(hr.gsz g cs hg).2 ⟨id,o,x,(h1 id).elim (fun h=>by rw[h]at e1;cases e1) (fun h=>by rw[←h];exact e1),e2⟩⟩,fun id cs b e E e1=>hr.typ id cs b e E ((h1 id).elim (fun h=>by rw[h]at e1;cases e1) fun h=>by rw[←h];exact e1),fun id b e E e1=>hr.tyq id b e E ((h1 id).elim (fun h=>by rw[h]at e1;cases e1) fun h=>by rw[←h];exact e1)⟩,fun b ⟨id,o,x,e1,e2⟩=>⟨id,o,x,?_,e2⟩⟩
 ·have e:A id=some o:=by
   rcases h1 id with h|h
   ·rw[h]at ho;cases ho
   ·rw[←h];exact ho
  obtain⟨b,e0,E,k1,k2⟩:=hr.obj id o e
  refine⟨b,e0,E,k1,k2.less fun m left last he=> ?_⟩
  subst he
  have k3:=k2
  simp only[VQ]at k3
  obtain⟨⟨l,c,mb,me,mE,seen,_,⟨es,hes⟩,_⟩,_⟩:=k3
  rcases h1 m with h|h
  ·exact absurd hes (h2 id m left last ho h es)
  ·exact⟨es,by rw[h];exact hes⟩
 ·rcases h1 id with h|h
  ·rw[h]at e1;cases e1
  ·rw[←h];exact e1
 ·rcases h1 id' with h|h
  ·rw[h]at e2;cases e2
  ·rw[←h];exact e2
 ·rcases h1 id with h|h
  ·rw[h]at e1;cases e1
  ·rw[←h];exact e1
theorem LI {A:Q3}{id:Nat}{o:AObj}(h:A id=none)(ho:∀es,o≠ .mp es):U2 (A.upd id (some o)) A:=by
 refine Se (fun k=> ?_) (fun j m l e _ hm es he=> ?_)
 ·by_cases hk:k=id
  ·subst hk;exact .inl h
  ·exact .inr (Qa _ _ _ hk).symm
 ·by_cases hk:m=id
  ·subst hk
   simp only[Q0,cA]at he
   exact ho es he
  ·rw[Qa _ _ _ hk,hm]at he;cases he
end Go.Ax
namespace Go.Ax.K
open Go Go.Ax
abbrev t (n:Nat):Operand:=.tmp n
abbrev fl (k n:Nat):LOp:=.fld k (.tmp n)
abbrev ld (n:Nat):LOp:=.load 1 false (.tmp n)
abbrev la (s n:Nat):LOp:=.load s true (.tmp n)
abbrev mv (n:Nat):LOp:=.mv (.tmp n)
abbrev mc (v:Value):LOp:=.mv (.const v)
abbrev bn (o:BinOp)(a b:Nat):LOp:=.bin o .num (.tmp a) (.tmp b)
abbrev bk (o:BinOp)(a:Nat)(b:Int):LOp:=.bin o .num (.tmp a) (.const (.int .i64 b))
abbrev ix (s a b:Nat):LOp:=.idxS s (.tmp a) (.tmp b)
abbrev le (n:Nat):LOp:=.lenOf .slice (.tmp n)
abbrev ca (f:Nat)(l:List Operand):LOp:=.call (.func f) l
abbrev pa (a b:Nat):LOp:=.pick (.tmp a) (.tmp b) (.const (.bool false))
abbrev po (a b:Nat):LOp:=.pick (.tmp a) (.const (.bool true)) (.tmp b)
abbrev o (d:Nat)(x:LOp):LInstr:=⟨some d,x,none⟩
abbrev gt (j d:Nat)(x:LOp):LInstr:=⟨some d,x,some (j,true)⟩
abbrev gf (j d:Nat)(x:LOp):LInstr:=⟨some d,x,some (j,false)⟩
abbrev e (x:LOp):LInstr:=⟨none,x,none⟩
abbrev v (k:Nat)(x:LInstr)(s:Sched):Sched:=.val k false x s
abbrev w (k:Nat)(x:LInstr)(s:Sched):Sched:=.val k true x s
end Go.Ax.K
