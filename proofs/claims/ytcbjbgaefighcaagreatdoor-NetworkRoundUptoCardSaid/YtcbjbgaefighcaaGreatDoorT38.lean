/- Part 38 of the proof. -/
import Derived.Test.YtcbjbgaefighcaaGreatDoorT0
import Derived.Test.YtcbjbgaefighcaaGreatDoorT13
import Derived.Test.YtcbjbgaefighcaaGreatDoorT26
import Derived.Test.YtcbjbgaefighcaaGreatDoorT37
import Derived.Deep.DeepWitnessRowRef
import Derived.Lib.LaidIn
set_option linter.all false
namespace Go.Proofs.YtcbjbgaefighcaaGreatDoor
open Go Go.Ax Go.Proofs Go.ChangeShapes Go.WideShapes Go.ChangeAt Go.RowKit Go.Lib
theorem repL_two {κ:Kn}{a b:AV}{u v:Value}(h:Qd κ a u)(k:Qd κ b v):Qi κ [a,b] [u,v]:=by
 simp only[Qi];exact⟨_,_,rfl,h,_,_,rfl,k,rfl⟩
theorem FD {H:Type}{enc:TypeId×Value→H}{W:World}{base:Nat}{v:Value}{d:DataW H}{p:List MemPlace}(hv:Value.okWide Tryz.prog W .any base 29 v)(h:DataW.Trod enc Tryz.prog W 0 (fun _=>true) true 29 v d p):
 ∃m:Model,Qd (κW W) (.agg m.cells) v∧wM m≤Rows.uptoBulk d:=by
 obtain⟨n,h⟩:=h
 obtain⟨m,h1,h2⟩:=rd_M n n (fG _) _ _ h
 refine⟨m,?_,h2⟩
 simp only[Value.okWide,Tryz.underlying29]at hv
 obtain⟨cs,rfl,_⟩:=hv
 simp only[Qd]
 exact⟨cs,rfl,h1⟩
theorem own:ownKnob Tryz.prog.godebug=none:=by kernel_rfl
def HE:DataW Unit→Array Value
 | .agg l=>(l.map fun| .lit (.int k n)=>Value.int k n|_=>.nilFunc).toArray
 |_=>#[]
def Su:DataW Unit→Value
 | .iface _ (.ptr (.agg [.lit (.string s)]))=>.string ⟨s.toArray⟩
 |_=>.nilFunc
noncomputable def OP (os:Os):World:=
 let N:=(World.settled Tryz.prog os).heap.size
 let w0:=World.holding Tryz.prog os ⟨#[.cells #[Su Rows.laid_strconv_ErrSyntax] 300,.cells #[Su Rows.laid_strconv_ErrRange] 300],#[],[]⟩
 let put (h:Array Obj) (g:Nat) (cs:Array Value):Array Obj:=h.modify g fun
  | .cells _ t frozen=>.cells cs t frozen
  |o=>o
 let h0:=put (put w0.heap 4 #[.iface 298 (.pointer (some ⟨N,0,none⟩))]) 5 #[.iface 298 (.pointer (some ⟨N+1,0,none⟩))]
 let h1:=put (put (put h0 1 (HE Rows.laid_internal_strconv_uint64pow10)) 2 (HE Rows.laid_math_bits_deBruijn32tab)) 3 (HE Rows.laid_math_bits_deBruijn64tab)
 {w0 with heap:=h1}
def SU:Value:=.agg #[.string ⟨#[]⟩,.slice none 0 0,.slice none 0 0,.slice none 0 0,.slice none 0 0,.slice none 0 0]
def jD {H:Type}:DataW H:=.agg [.lit (.string []),.nil,.nil,.nil,.nil,.nil]
theorem FF (os:Os)(args:Array Value):laidMet Tryz.prog T0 ((OP os).forCall (fun _ _=>0) ⟨#[],args,[]⟩).memory:=
 laidMet_of_run' 8 (by kernel_rfl) (by kernel_rfl)
end Go.Proofs.YtcbjbgaefighcaaGreatDoor
namespace Go.Proofs.YtcbjbgaefighcaaGreatDoor
open Go Go.Ax Go.Proofs
def Ul (r:Bs):Prop:=∀c t,r=c::t→Y3 c=false
theorem Qw {c:UInt8}{t:Bs}(h:Y3 c=false):Ul (c::t):=fun c' t' e=>by cases e;exact h
theorem jJ {c:UInt8}(h:Y3 c=false):J7 c=false:=by
 unfold Y3 at h
 simp only[Bool.or_eq_false_iff]at h
 exact h.1.2
theorem isL_C {c:UInt8}(h:Yu c=true):Y3 c=true:=by simp [Y3,h]
theorem K4 {f:UInt8→Bool}:∀{w r:Bs},w.all f=true→(∀c t,r=c::t→f c=false)→(w++r).takeWhile f=w
 |[],[],_,_=>rfl
 |[],c::t,_,h=>by simp [List.takeWhile_cons,h c t rfl]
 |c::w,r,hw,h=>by
  simp only[dU,cD]at hw
  simp only[cF,List.takeWhile_cons,hw.1,if_true,K4 hw.2 h]
def Zw (w r:Bs):Prop:=Z3 (w++r)=w.length
theorem Zw.cur {w r:Bs}(h:Zw w r):cur (w++r)=w:=by unfold YtcbjbgaefighcaaGreatDoor.cur;rw[h];simp
theorem Zw.adv {w r:Bs}(h:Zw w r):adv (w++r)=skip r:=by unfold YtcbjbgaefighcaaGreatDoor.adv;rw[h];simp
theorem Tq {w r:Bs}{c:UInt8}{t:Bs}(e:w=c::t)(h1:Yu c=true)(h2:w.all Y3=true)(hr:Ul r):Zw w r:=by
 unfold Zw
 have:=K4 (f:=Y3) h2 hr
 subst e
 simp only[Z3,cF,h1,if_true]
 rw[cF]at this
 rw[this]
theorem Ev {w r:Bs}{c:UInt8}{t:Bs}(e:w=c::t)(h1:Yu c=false)(h2:w.all J7=true)(hr:Ul r):Zw w r:=by
 unfold Zw
 have:=K4 (f:=J7) h2 (r:=r) fun c t e=>jJ (hr c t e)
 subst e
 have h3:J7 c=true:=by simp only[dU,cD]at h2;exact h2.1
 simp only[Z3,cF,h1,h3,if_true,cB,if_false]
 rw[cF]at this
 rw[this]
def LG (c:UInt8):Bool:= !Yu c&& !J7 c&& !(c==124||c==38||c==60||c==62||c==61||c==33||c==45||c==46)
theorem ZI {c:UInt8}{r:Bs}(h:LG c=true):Zw [c] r:=by
 unfold LG at h
 simp only[cD,Bool.not_eq_true',Bool.or_eq_false_iff,beq_eq_false_iff_ne,ne_eq]at h
 obtain⟨⟨h1,h2⟩,⟨⟨⟨⟨⟨⟨a1,a2⟩,a3⟩,a4⟩,a5⟩,a6⟩,a7⟩,a8⟩:=h
 unfold Zw
 simp only[Z3,cF,cI,h1,h2,cB,if_false]
 rw[fD];· rfl
 intro hm
 cases r with
 |nil=>simp [Yp]at hm
 |cons d r=>simp [Yp,a1,a2,a3,a4,a5,a6,a7,a8]at hm
theorem Wu {c d:UInt8}{r:Bs}(h1:Yu c=false)(h2:J7 c=false)(h:[c,d]∉Yp):Zw [c] (d::r):=by
 unfold Zw
 simp only[Z3,cF,cI,h1,h2,cB,if_false]
 rw[fD];· rfl
 simpa using h
theorem KB {c d:UInt8}{r:Bs}(h1:Yu c=false)(h2:J7 c=false)(h:[c,d]∈Yp):Zw [c,d] r:=by
 unfold Zw
 simp only[Z3,cF,cI,h1,h2,cB,if_false]
 rw[fC];· rfl
 simpa using h
theorem Tf {c:UInt8}{r:Bs}(h:XY c=true):skip (c::r)=skip r:=by
 have hc:(c==47)=false:=by
  cases h':(c==47)with
  |false=>rfl
  |true=>rw[beq_iff_eq.1 h']at h;revert h;decide
 unfold skip
 simp only[QG,hc,dE,cB,if_false,h,if_true,Nat.add_comm 1,List.drop_succ_cons]
theorem Ju {c:UInt8}{r:Bs}(h:XY c=false)(h2:c≠47):skip (c::r)=c::r:=by
 unfold skip
 simp [QG,h,h2]
@[simp] theorem Z6 {r:Bs}:skip (32::r)=skip r:=Tf rfl
@[simp] theorem Ua {r:Bs}:skip (10::r)=skip r:=Tf rfl
@[simp] theorem AL {r:Bs}:skip (9::r)=skip r:=Tf rfl
@[simp] theorem GT:skip []=[]:=rfl
def QO (c:UInt8):Bool:=Yu c||J7 c||c==40||c==33||c==45
def Yl (t:Bs):Prop:=∃c r,t=c::r∧QO c=true
theorem Yl.app {t r:Bs}(h:Yl t):Yl (t++r):=by obtain⟨c,s,rfl,h⟩:=h;exact⟨c,s++r,rfl,h⟩
theorem Yl.ne {t:Bs}(h:Yl t):t≠[]:=by obtain⟨c,s,rfl,h⟩:=h;simp
theorem I0 {c:UInt8}(h:QO c=true):XY c=false∧c≠47∧c≠62∧c≠61:=by
 have key:∀d:UInt8,QO d=false→c≠d:=fun d hd e=>by rw[e,hd]at h;cases h
 refine⟨?_,key 47 rfl,key 62 rfl,key 61 rfl⟩
 unfold XY
 simp [key 32 rfl,key 9 rfl,key 13 rfl,key 10 rfl]
theorem Yl.skip {t:Bs}(h:Yl t):skip t=t:=by
 obtain⟨c,s,rfl,h⟩:=h
 exact Ju (I0 h).1 (I0 h).2.1
theorem Yl.skip_app {t r:Bs}(h:Yl t):YtcbjbgaefighcaaGreatDoor.skip (t++r)=t++r:=h.app.skip
theorem Eb {c:UInt8}{t:Bs}(h:Yu c=true):Yl (c::t):=⟨c,t,rfl,by simp [QO,h]⟩
theorem zN {c:UInt8}{t:Bs}(h:J7 c=true):Yl (c::t):=⟨c,t,rfl,by simp [QO,h]⟩
theorem UP {w:Bs}(h:Qf w=true):∃c t,w=c::t∧Yu c=true∧w.all Y3=true∧w∉IH:=by
 cases w with
 |nil=>cases h
 |cons c t=>
  simp only[Qf,cD,Bool.not_eq_true',lF]at h
  exact⟨c,t,rfl,h.1.1.2,h.2,h.1.2⟩
theorem J3 {w:Bs}(h:Qf w=true):Yl w:=by
 obtain⟨c,t,rfl,h1,_,_⟩:=UP h
 exact Eb h1
theorem HD {w r:Bs}(h:Qf w=true)(hr:Ul r):Zw w r:=by
 obtain⟨c,t,e,h1,h2,_⟩:=UP h
 exact Tq e h1 h2 hr
theorem Y7 {w r:Bs}(h:Qf w=true)(hr:Ul r):Z8 (w++r)=.ok w (skip r):=by
 have ht:=HD h hr
 simp only[Z8,ht.cur,ht.adv,h,if_true]
theorem Ub {w r:Bs}(h:Zw w r):Qk w (w++r)=.ok () (skip r):=by
 simp only[Qk,h.cur,h.adv,if_true]
theorem Kk {w v:Bs}(h:Qf w=true)(hv:v∈IH):w≠v:=fun e=>by
 obtain⟨c,t,_,_,_,h3⟩:=UP h
 exact h3 (e▸hv)
theorem Hf {n:Nat}(h:n<10):(UInt8.ofNat (48+n)).toNat=48+n:=by
 rw[UInt8.toNat_ofNat'];omega
theorem Sq {n:Nat}(h:n<10):J7 (UInt8.ofNat (48+n))=true:=by
 unfold J7
 rw[Hf h]
 simp;omega
theorem Sk {c:UInt8}(h:J7 c=true):Yu c=false:=by
 unfold J7 at h
 unfold Yu
 simp only[dZ,lF]at h⊢
 omega
theorem Sy:∀(u:Nat),(Lib.decDigits u).all J7=true:=fun u=>by
 induction u using Nat.strongRecOn with
 |_ u ih=>
  rw[Lib.decDigits]
  split
  ·rename_i h;simp only[dU,lP,Sq h,fX]
  ·rename_i h
   rw[fK,ih (u / 10) (by omega)]
   simp only[dU,lP,Sq (n:=u % 10) (by omega),fX]
theorem E2 (l:Bs)(c:UInt8):Vh (l++[c])=10*Vh l+(c.toNat - 48):=by simp [Vh]
theorem Sx:∀(u:Nat),Vh (Lib.decDigits u)=u:=fun u=>by
 induction u using Nat.strongRecOn with
 |_ u ih=>
  rw[Lib.decDigits]
  split
  ·rename_i h
   simp only[Vh,List.foldl_cons,List.foldl_nil,Hf h]
   omega
  ·rename_i h
   rw[E2,ih (u / 10) (by omega),Hf (by omega)]
   omega
theorem E1:∀(u:Nat),1≤u→(Lib.decDigits u).head?≠some 48:=fun u=>by
 induction u using Nat.strongRecOn with
 |_ u ih=>
  intro hu
  rw[Lib.decDigits]
  split
  ·rename_i h
   simp only[List.head?_cons,ne_eq,cA]
   intro e
   have:=Hf h
   rw[e]at this
   have h48:(48:UInt8).toNat=48:=rfl
   omega
  ·rename_i h
   have hi:=ih (u / 10) (by omega) (by omega)
   rw[List.head?_append]
   cases hh:(Lib.decDigits (u / 10)).head? with
   |none=>
    rw[List.head?_eq_none_iff]at hh
    have:=Sx (u / 10)
    rw[hh]at this
    simp only[Vh,List.foldl_nil]at this
    omega
   |some c=>rw[hh]at hi;simpa using hi
theorem OC (u:Nat):∃c t,Lib.decDigits u=c::t∧J7 c=true:=by
 have h:=Sy u
 cases e:Lib.decDigits u with
 |nil=>
  have:=congrArg List.length e
  rw[Lib.decDigits_length,cL]at this
  have:=Lib.nDigits_pos u
  omega
 |cons c t=>
  rw[e]at h
  simp only[dU,cD]at h
  exact⟨c,t,rfl,h.1⟩
theorem DO {u:Nat}(h:1<(Lib.decDigits u).length):1≤u:=by
 rcases Nat.eq_zero_or_pos u with rfl|h'
 ·rw[Lib.decDigits_one (by omega)]at h;simp at h
 ·exact h'
theorem LJ {u:Nat}{r:Bs}(hr:Ul r):Zw (Lib.decDigits u) r:=by
 obtain⟨c,t,e,h⟩:=OC u
 exact Ev e (Sk h) (Sy u) hr
theorem In (u:Nat):Yl (Lib.decDigits u):=by
 obtain⟨c,t,e,h⟩:=OC u
 rw[e];exact zN h
theorem OQ {u:Nat}{r:Bs}:JK (Lib.decDigits u++r)=true:=by
 obtain⟨c,t,e,h⟩:=OC u
 rw[e];exact h
theorem L9 {b:Bool}{u:Nat}{r:Bs}(hr:Ul r)(hu:u≤2147483648)(hb:b=true→u≠0):JT b (Lib.decDigits u++r)=.ok (if b then -(u:Int)else u) (skip r):=by
 have ht:=LJ (u:=u) hr
 simp only[JT,OQ,if_true,ht.cur,ht.adv,Sx]
 rw[fD]
 rintro(h|⟨h1,h2⟩|⟨h1,h2⟩)
 ·omega
 ·exact E1 u (DO h1) h2
 ·exact hb h1 h2
theorem Ke (n:Int):(∃u:Nat,n=u∧Lib.itoa n=Lib.decDigits u)∨∃u:Nat,u≠0∧n= -(u:Int)∧Lib.itoa n=45::Lib.decDigits u:=by
 by_cases h:n<0
 ·refine .inr ⟨n.natAbs,by omega,by omega,?_⟩
  unfold Lib.itoa
  rw[fC h]
 ·refine .inl ⟨n.toNat,by omega,?_⟩
  unfold Lib.itoa
  rw[fD (by omega)]
theorem Ux (n:Int):Yl (Lib.itoa n):=by
 rcases Ke n with⟨u,_,e⟩|⟨u,_,_,e⟩ <;> rw[e]
 ·exact In u
 ·exact⟨45,_,rfl,rfl⟩
theorem OH {t r:Bs}(h:Yl t):Zw [45] (t++r):=by
 obtain⟨c,s,rfl,h⟩:=h
 refine Wu rfl rfl ?_
 have:=(I0 h).2.2.1
 simp [Yp,this]
theorem GM {t r:Bs}(h:Yl t):Zw [33] (t++r):=by
 obtain⟨c,s,rfl,h⟩:=h
 refine Wu rfl rfl ?_
 have:=(I0 h).2.2.2
 simp [Yp,this]
theorem WO {n:Int}{r:Bs}(hr:Ul r)(hn:ZQ n=true):JE (Lib.itoa n++r)=.ok n (skip r):=by
 simp only[ZQ,dZ]at hn
 unfold JE
 rcases Ke n with⟨u,e1,e⟩|⟨u,h0,e1,e⟩ <;> rw[e]
 ·have ht:=LJ (u:=u) hr
  rw[fD,L9 hr (by omega) (fun h=>by cases h)]
  ·simp [e1]
  ·rw[ht.cur]
   obtain⟨c,t,e2,h⟩:=OC u
   rw[e2]
   intro e3
   simp only[YC,fQ]at e3
   rw[e3.1]at h
   exact absurd h (by decide)
 ·have ht:=OH (r:=r) (In u)
  rw[cF,←List.singleton_append,fC (show cur _=YC from ht.cur),ht.adv,(In u).skip_app,L9 hr (by omega) fun _=>h0]
  simp [e1]
def Jn {α:Type}(p:Nat→Res α)(R:Res α):Prop:=∃K,∀f,K≤f→p f=R
theorem Jn.const {α:Type}{R:Res α}:Jn (fun _=>R) R:=⟨0,fun _ _=>rfl⟩
theorem Jn.of {α:Type}{p:Nat→Res α}{R:Res α}(h:∀f,p f=R):Jn p R:=⟨0,fun f _=>h f⟩
theorem Jn.step {α:Type}{p q:Nat→Res α}{R:Res α}(h:Jn p R)(hq:∀f,q (f+1)=p f):Jn q R:=by
 obtain⟨K,h⟩:=h
 refine⟨K+1,fun f hf=> ?_⟩
 obtain⟨g,rfl⟩:∃g,f=g+1:=⟨f - 1,by omega⟩
 rw[hq,h g (by omega)]
theorem Jn.cg {α:Type}{p q:Nat→Res α}{R:Res α}(h:Jn p R)(hq:∀f,q f=p f):Jn q R:=by
 obtain⟨K,h⟩:=h
 exact⟨K,fun f hf=>by rw[hq,h f hf]⟩
theorem Jn.bind {α β:Type}{p:Nat→Res α}{k:Nat→α→Bs→Res β}{a:α}{v:Bs}{R:Res β}(h:Jn p (.ok a v))(h2:Jn (fun f=>k f a v) R):Jn (fun f=>(p f).bind (k f)) R:=by
 obtain⟨K,h⟩:=h
 obtain⟨L,h2⟩:=h2
 refine⟨max K L,fun f hf=> ?_⟩
 simp only[h f (by omega),Q7]
 exact h2 f (by omega)
def K6 (r:Bs):Prop:=Ul r∧cur (skip r)≠[40]
def WN (n:Nat)(r:Bs):Prop:=∀m,n≤m→JB m (cur (skip r))=none
theorem WN.mono {n m:Nat}{r:Bs}(h:WN n r)(hm:n≤m):WN m r:=fun k hk=>h k (by omega)
def Un (x:Exp)(t:Bs):Prop:=∀r,K6 r→Jn (fun f=>Zq f (t++r)) (.ok x (skip r))
def Fu (n:Nat)(x:Exp)(t:Bs):Prop:=∀r,K6 r→WN n r→Jn (fun f=>Jx f n (t++r)) (.ok x (skip r))
def Lo (n:Nat)(x:Exp)(t:Bs):Prop:=∀r R,K6 r→WN (n+1) r→Jn (fun f=>ZN f n x (skip r)) R→Jn (fun f=>Jx f n (t++r)) R
def Ex (x:Exp)(t:Bs):Prop:=∀r,K6 r→WN 1 r→cur (skip r)≠[63]→Jn (fun f=>QZ f (t++r)) (.ok x (skip r))
theorem SR {x:Exp}{t:Bs}(h:Un x t):Fu 6 x t:=fun r hr _=>(h r hr).step fun f=>by simp [Jx]
theorem L4 {n:Nat}{x:Exp}{t:Bs}(hn:n≤5)(h:Fu (n+1) x t):Lo n x t:=fun r R hr hN hR=>
 Jn.step (Jn.bind (k:=fun f x u=>ZN f n x u) (h r hr hN) hR) fun f=>by simp only[Jx];rw[fD (by omega)]
theorem Mx {n:Nat}{x:Exp}{u:Bs}(h:JB n (cur u)=none):Jn (fun f=>ZN f n x u) (.ok x u):=Jn.step Jn.const fun f=>by simp only[ZN,h]
theorem jF {n:Nat}{x:Exp}{t:Bs}(h:Lo n x t):Fu n x t:=fun r hr hN=>h r _ hr (hN.mono (by omega)) (Mx (hN n (fG _)))
theorem Ee {x:Exp}{t:Bs}(h:Fu 1 x t):Ex x t:=fun r hr hN hq=>
 Jn.step (Jn.bind (k:=fun f x u1=>if cur u1=[63]then
  (QZ f (adv u1)).bind fun a u2=>(Qk [58] u2).bind fun _ u3=>(QZ f u3).bind fun b u4=>.ok (.mk 18 [] 0 [x,a,b]) u4
  else .ok x u1) (h r hr hN) (Jn.of fun f=>by rw[fD hq])) fun f=>by simp only[QZ]
theorem Rq {t:Bs}(h:∀m,1≤m→m≤5→JB m t=none)(m:Nat):JB m t=none:=by
 rcases fH m 6 with h1|h1
 ·rcases Nat.eq_zero_or_pos m with rfl|h2
  ·rfl
  ·exact h m h2 (by omega)
 ·obtain⟨k,rfl⟩:∃k,m=k+6:=⟨m - 6,by omega⟩
  rfl
theorem TJ {t:Bs}(h:([1,2,3,4,5].all fun m=>(JB m t).isNone)=true)(m:Nat):JB m t=none:=Rq (fun m h1 h2=>by
 rw[cH]at h
 have:=h m (by simp;omega)
 simpa using this) m
theorem Kx {r t:Bs}(hr:Ul r)(h:cur (skip r)=t)(ht:t≠[40]):K6 r:=⟨hr,h▸ht⟩
theorem Ii {r t:Bs}{n:Nat}(h:cur (skip r)=t)(ht:([1,2,3,4,5].all fun m=>(JB m t).isNone)=true):WN n r:=fun m _=>by rw[h];exact TJ ht m
theorem Wz {c:UInt8}{r:Bs}(h:LG c=true)(hw:XY c=false)(h47:c≠47):cur (skip (c::r))=[c]:=by
 rw[Ju hw h47];exact(ZI (r:=r) h).cur
theorem yL {c:UInt8}{r:Bs}(h:LG c=true):adv (c::r)=skip r:=(ZI (r:=r) h).adv
theorem par {x:Exp}{t:Bs}(hs:Yl t)(h:Ex x t):Un x (40::(t++[41])):=fun r hr=>by
 have e:40::(t++[41])++r=[40]++(t++(41::r)):=by simp
 have h40:Zw [40] (t++(41::r)):=ZI rfl
 have c41:cur (skip (41::r))=[41]:=Wz rfl rfl (by decide)
 have hx:=h (41::r) (Kx (Qw rfl) c41 (by decide)) (Ii c41 rfl) (by rw[c41];decide)
 have hp:Jn (fun f=>JU f ([40]++(t++(41::r)))) (.ok x (skip r)):=by
  refine Jn.step (Jn.bind (k:=fun f x u1=>(Qk [41] u1).bind fun _ u2=>.ok x u2) hx (Jn.of fun f=> ?_)) fun f=> ?_
  ·rw[Ju rfl (by decide)]
   show(Qk [41] ([41]++r)).bind _=_
   rw[Ub (ZI rfl)];rfl
  ·simp only[JU]
   rw[fD (show¬JK ([40]++(t++41::r))=true from fun h=>absurd (show J7 40=true from h) (by decide)),fC h40.cur,h40.adv,hs.skip_app]
 rw[e]
 refine Jn.step hp fun f=> ?_
 simp only[Zq]
 rw[fD (by rw[h40.cur];decide),fD (by rw[h40.cur];decide)]
structure PK (x:Exp) (t:Bs):Prop where
 sol:Yl t
 ex:Ex x t
 fu:∀n,1≤n→n≤6→n≤J4 x.kind→Fu n x t
 lo:∀n,1≤n→n≤5→n≤J4 x.kind→(n≠3∨J4 x.kind≠3)→Lo n x t
 un:6≤J4 x.kind→Un x t
theorem Is {x:Exp}{t:Bs}:∀(k n:Nat),n+k≤6→Fu (n+k) x t→Fu n x t
 |0,_,_,h=>h
 |k+1,n,hk,h=>jF (L4 (by omega) (Is k (n+1) (by omega) (by rw[show n+1+k=n+(k+1)by omega];exact h)))
theorem L2 {x:Exp}{t:Bs}(hs:Yl t)(h:Un x t):PK x t:=
 have fu:∀n,n≤6→Fu n x t:=fun n hn=>Is (6 - n) n (by omega) (by rw[show n+(6 - n)=6 by omega];exact SR h)
 {sol:=hs,ex:=Ee (fu 1 (by omega)),fu:=fun n _ h _=>fu n h,lo:=fun n _ h _ _=>L4 h (fu (n+1) (by omega)),un:=fun _=>h}
theorem AU {x:Exp}{t:Bs}{p:Nat}(hs:Yl t)(hp:J4 x.kind=p)(h1:1≤p)(h5:p≤5)(hf:Fu p x t)(hl:p≠3→Lo p x t):PK x t:=
 have fu:∀n,n≤p→Fu n x t:=fun n hn=>Is (p - n) n (by omega) (by rw[show n+(p - n)=p by omega];exact hf)
 {sol:=hs,ex:=Ee (fu 1 h1),fu:=fun n _ _ h=>fu n (by omega),un:=fun h=>absurd h (by omega),
  lo:=fun n _ h5 hn h3=>by
   rcases fH n p with h|h
   ·exact L4 h5 (fu (n+1) (by omega))
   ·obtain rfl:n=p:=by omega
    exact hl (by omega)}
theorem AJ {t:Bs}:Yl (40::t):=⟨40,t,rfl,rfl⟩
theorem AI {t:Bs}:Yl (45::t):=⟨45,t,rfl,rfl⟩
theorem AK {t:Bs}:Yl (33::t):=⟨33,t,rfl,rfl⟩
theorem PK.psol {x:Exp}{t:Bs}(h:PK x t)(l:Nat):Yl (Je l x.kind t):=by
 unfold Je;split
 ·exact AJ
 ·exact h.sol
theorem PK.pun {x:Exp}{t:Bs}(h:PK x t){l:Nat}(hl:6≤l):Un x (Je l x.kind t):=by
 unfold Je;split
 ·exact par h.sol h.ex
 ·exact h.un (by omega)
theorem PK.pfu {x:Exp}{t:Bs}(h:PK x t){n:Nat}(h1:1≤n)(h6:n≤6):Fu n x (Je n x.kind t):=by
 unfold Je;split
 ·exact Is (6 - n) n (by omega) (by rw[show n+(6 - n)=6 by omega];exact SR (par h.sol h.ex))
 ·exact h.fu n h1 h6 (by omega)
theorem PK.plo {x:Exp}{t:Bs}(h:PK x t){n:Nat}(h1:1≤n)(h5:n≤5)(h3:n≠3):Lo n x (Je n x.kind t):=by
 unfold Je;split
 ·exact L4 h5 (Is (6 - (n+1)) (n+1) (by omega) (by rw[show n+1+(6 - (n+1))=6 by omega];exact SR (par h.sol h.ex)))
 ·exact h.lo n h1 h5 (by omega) (.inl h3)
section
variable {α:Type}{one:Nat→Bs→Res α}{tx:α→Bs}{sep sepT:Bs}{F:Bs→Prop}
theorem N2 (hs:∀q,Yl q→cur (skip (sepT++q))=sep∧adv (skip (sepT++q))=q)(hF:∀q,Yl q→F (sepT++q)){r:Bs}(hr:F r)(hend:cur (skip r)≠sep):
 ∀(l:List α),(∀a∈l,Yl (tx a))→(∀a∈l,∀r,F r→Jn (fun f=>one f (tx a++r)) (.ok a (skip r)))→∀acc,∃K,∀f,K≤f→∀g,l.length<g→ZZ sep (one f) g acc (skip (Lib.joinTail sepT (l.map tx)++r))=.ok (acc++l) (skip r)
 |[],_,_,acc=>⟨0,fun f _ g hg=>by
  obtain⟨g,rfl⟩:∃k,g=k+1:=⟨g - 1,by simp at hg;omega⟩
  simp [ZZ,Lib.joinTail,hend]⟩
 |a::l,hl,h1,acc=>by
  have ht:Lib.joinTail sepT ((a::l).map tx)++r=sepT++(tx a++(Lib.joinTail sepT (l.map tx)++r)):=by simp [Lib.joinTail]
  have hq:Yl (tx a++(Lib.joinTail sepT (l.map tx)++r)):=(hl a (by simp)).app
  have hFr:F (Lib.joinTail sepT (l.map tx)++r):=by
   cases l with
   |nil=>simpa[Lib.joinTail]using hr
   |cons b l=>
    have e:Lib.joinTail sepT ((b::l).map tx)++r=sepT++(tx b++(Lib.joinTail sepT (l.map tx)++r)):=by simp [Lib.joinTail]
    rw[e]
    exact hF _ (hl b (by simp)).app
  obtain⟨K1,h1'⟩:=h1 a (by simp) _ hFr
  obtain⟨K2,h2⟩:=N2 hs hF hr hend l (fun a h=>hl a (by simp [h])) (fun a h=>h1 a (by simp [h])) (acc++[a])
  refine⟨max K1 K2,fun f hf g hg=> ?_⟩
  obtain⟨g,rfl⟩:∃k,g=k+1:=⟨g - 1,by simp at hg;omega⟩
  rw[ht,ZZ,fC (hs _ hq).1,(hs _ hq).2]
  have:=h1' f (by omega)
  simp only at this
  rw[this,Q7,h2 f (by omega) g (by simpa using hg)]
  simp
theorem Io (hs:∀q,Yl q→cur (skip (sepT++q))=sep∧adv (skip (sepT++q))=q)(hF:∀q,Yl q→F (sepT++q)){r:Bs}(hr:F r)(hend:cur (skip r)≠sep)
 {l:List α}(hne:l≠[])(hl:∀a∈l,Yl (tx a))(h1:∀a∈l,∀r,F r→Jn (fun f=>one f (tx a++r)) (.ok a (skip r))):Jn (fun f=>ZO sep (one f) f (Lib.join (l.map tx) sepT++r)) (.ok l (skip r)):=by
 cases l with
 |nil=>exact absurd rfl hne
 |cons a l=>
  rw[cJ,Lib.join_cons,cU]
  have hFr:F (Lib.joinTail sepT (l.map tx)++r):=by
   cases l with
   |nil=>simpa[Lib.joinTail]using hr
   |cons b l=>
    have e:Lib.joinTail sepT ((b::l).map tx)++r=sepT++(tx b++(Lib.joinTail sepT (l.map tx)++r)):=by simp [Lib.joinTail]
    rw[e]
    exact hF _ (hl b (by simp)).app
  obtain⟨K2,h2⟩:=N2 hs hF hr hend l (fun a h=>hl a (by simp [h])) (fun a h=>h1 a (by simp [h])) [a]
  refine Jn.bind (h1 a (by simp) _ hFr) ⟨max K2 (l.length+1),fun f hf=> ?_⟩
  exact h2 f (by omega) f (by omega)
end
theorem KT (q:Bs)(hq:Yl q):cur (skip ([44,32]++q))=[44]∧adv (skip ([44,32]++q))=q:=by
 have e:skip ([44,32]++q)=[44]++(32::q):=Ju rfl (by decide)
 rw[e]
 exact⟨(ZI rfl).cur,by rw[(ZI rfl).adv,Z6,hq.skip]⟩
theorem opd {k:Int}(h:5≤k∧k≤17):k=5∨k=6∨k=7∨k=8∨k=9∨k=10∨k=11∨k=12∨k=13∨k=14∨k=15∨k=16∨k=17:=by omega
theorem HK {k:Int}(h:5≤k∧k≤17):J4 k=(Ji k).2∧1≤(Ji k).2∧(Ji k).2≤5∧JB (Ji k).2 (Ji k).1=some k∧(Ji k).1≠[40]∧
 (([1,2,3,4,5].all fun m=>m==(Ji k).2||(JB m (Ji k).1).isNone)=true)∧∀r,skip ((Ji k).1++32::r)=(Ji k).1++32::r∧Zw (Ji k).1 (32::r):=by
 rcases opd h with rfl|rfl|rfl|rfl|rfl|rfl|rfl|rfl|rfl|rfl|rfl|rfl|rfl <;>
  exact⟨rfl,by decide,by decide,rfl,by decide,rfl,fun r=>⟨rfl,rfl⟩⟩
theorem Fj {k:Int}(h:5≤k∧k≤17){m:Nat}(hm:m≠(Ji k).2):JB m (Ji k).1=none:=by
 have:=(HK h).2.2.2.2.2.1
 rcases fH m 6 with h1|h1
 ·rcases Nat.eq_zero_or_pos m with rfl|h2
  ·rfl
  ·rw[cH]at this
   have:=this m (by simp;omega)
   simpa[hm]using this
 ·obtain⟨k,rfl⟩:∃k,m=k+6:=⟨m - 6,by omega⟩
  rfl
theorem Dj {n:Nat}{k:Int}{x y:Exp}{u v:Bs}{R:Res Exp}(hk:JB n (cur u)=some k)(h:Jn (fun f=>Jx f (n+1) (adv u)) (.ok y v))(hR:Jn (fun f=>if n=3 then .ok (.mk k [] 0 [x,y]) v else ZN f n (.mk k [] 0 [x,y]) v) R):
 Jn (fun f=>ZN f n x u) R:=
 Jn.step (Jn.bind (k:=fun f y u1=>if n=3 then .ok (.mk k [] 0 [x,y]) u1 else ZN f n (.mk k [] 0 [x,y]) u1) h hR) fun f=>by simp only[ZN,hk]
theorem jA {k:Int}(hk:5≤k∧k≤17){a b:Exp}{ta tb:Bs}(ha:PK a ta)(hb:PK b tb):
 PK (.mk k [] 0 [a,b]) (Je (if J4 k=3 then 4 else J4 k) a.kind ta++[32]++(Ji k).1++[32]++Je (J4 k+1) b.kind tb):=by
 obtain⟨e0,e1,e5,ek,e40,_,etok⟩:=HK hk
 rw[e0]
 generalize hn:(Ji k).2=n at*
 have hsa:=ha.psol (if n=3 then 4 else n)
 have hsb:=hb.psol (n+1)
 have hlo:∀r R,K6 r→WN (n+1) r→Jn (fun f=>if n=3 then .ok (.mk k [] 0 [a,b]) (skip r)else ZN f n (.mk k [] 0 [a,b]) (skip r)) R→
  Jn (fun f=>Jx f n ((Je (if n=3 then 4 else n) a.kind ta++[32]++(Ji k).1++[32]++Je (n+1) b.kind tb)++r)) R:=fun r R hr hN hR=>by
  have e:(Je (if n=3 then 4 else n) a.kind ta++[32]++(Ji k).1++[32]++Je (n+1) b.kind tb)++r=Je (if n=3 then 4 else n) a.kind ta++(32::((Ji k).1++32::(Je (n+1) b.kind tb++r))):=by simp
  rw[e]
  have hsk:skip (32::((Ji k).1++32::(Je (n+1) b.kind tb++r)))=(Ji k).1++32::(Je (n+1) b.kind tb++r):=by rw[Z6,(etok _).1]
  have hcur:cur (skip (32::((Ji k).1++32::(Je (n+1) b.kind tb++r))))=(Ji k).1:=by rw[hsk];exact(etok _).2.cur
  have hadv:adv ((Ji k).1++32::(Je (n+1) b.kind tb++r))=Je (n+1) b.kind tb++r:=by rw[(etok _).2.adv,Z6,hsb.skip_app]
  have hfol:K6 (32::((Ji k).1++32::(Je (n+1) b.kind tb++r))):=Kx (Qw rfl) hcur e40
  have hnon:WN (n+1) (32::((Ji k).1++32::(Je (n+1) b.kind tb++r))):=fun m hm=>by rw[hcur];exact Fj hk (by omega)
  have hlp:Jn (fun f=>ZN f n a (skip (32::((Ji k).1++32::(Je (n+1) b.kind tb++r))))) R:=by
   refine Dj (k:=k) (y:=b) (v:=skip r) (by rw[hcur];exact ek) ?_ hR
   rw[hsk,hadv]
   exact hb.pfu (by omega) (by omega) r hr hN
  by_cases h3:n=3
  ·rw[fC h3]at*
   subst h3
   exact L4 (by omega) (ha.pfu (n:=4) (by omega) (by omega)) _ _ hfol hnon hlp
  ·rw[fD h3]at*
   exact ha.plo e1 e5 h3 _ _ hfol hnon hlp
 refine AU ?_ e0 e1 e5 ?_ ?_
 ·simp only[cU];exact hsa.app
 ·intro r hr hN
  refine hlo r _ hr (hN.mono (by omega)) ?_
  by_cases h3:n=3
  ·exact Jn.of fun f=>by rw[fC h3]
  ·exact(Mx (hN n (fG _))).cg fun f=>by rw[fD h3]
 ·intro h3 r R hr hN hR
  exact hlo r R hr hN (hR.cg fun f=>by rw[fD h3])
theorem LI {t:Bs}{r:Bs}{x:Exp}{v:Bs}(h:Jn (fun f=>JU f (t++r)) (.ok x v))(h1:cur (t++r)≠[33])(h2:cur (t++r)≠[45]):Jn (fun f=>Zq f (t++r)) (.ok x v):=
 h.step fun f=>by
  simp only[Zq]
  rw[fD h1,fD (show¬cur (t++r)=YC from h2)]
theorem Lv {u:Nat}{r:Bs}{c:UInt8}(hr:Ul r)(hc:J7 c=false):cur (Lib.decDigits u++r)≠[c]:=by
 rw[(LJ hr).cur]
 obtain⟨d,t,e,h⟩:=OC u
 rw[e]
 intro e2
 cases e2
 rw[hc]at h;cases h
theorem UO {n r:Bs}{c:UInt8}(h:Qf n=true)(hr:Ul r)(hc:Yu c=false):cur (n++r)≠[c]:=by
 rw[(HD h hr).cur]
 obtain⟨d,t,e,h1,_⟩:=UP h
 rw[e]
 intro e2
 cases e2
 rw[hc]at h1;cases h1
theorem AT {i:Int}(hi:ZQ i=true):PK (.mk 1 [] i []) (Lib.itoa i):=L2 (Ux i) fun r hr=>by
 simp only[ZQ,dZ]at hi
 rcases Ke i with⟨u,e1,e⟩|⟨u,h0,e1,e⟩ <;> rw[e]
 ·refine LI (Jn.step Jn.const fun f=> ?_) (Lv hr.1 rfl) (Lv hr.1 rfl)
  simp only[JU]
  rw[fC OQ,L9 hr.1 (by omega) (fun h=>by cases h)]
  simp [e1]
 ·have ht:=OH (r:=r) (In u)
  rw[cF,←List.singleton_append]
  refine Jn.step Jn.const fun f=> ?_
  simp only[Zq]
  rw[fD (by rw[ht.cur];decide),fC (show cur _=YC from ht.cur),ht.adv,(In u).skip_app,fC OQ,L9 hr.1 (by omega) fun _=>h0]
  simp [e1]
theorem Kf {n r:Bs}(h:Qf n=true):JK (n++r)=false:=by
 obtain⟨c,t,rfl,h1,_⟩:=UP h
 show J7 c=false
 cases hd:J7 c with
 |false=>rfl
 |true=>rw[Sk hd]at h1;cases h1
theorem EN {n:Bs}(hn:Qf n=true):PK (.mk 2 n 0 []) n:=L2 (J3 hn) fun r hr=>by
 refine LI (Jn.step Jn.const fun f=> ?_) (UO hn hr.1 rfl) (UO hn hr.1 rfl)
 simp only[JU]
 rw[fD (by rw[Kf hn];decide),fD (UO hn hr.1 rfl),Y7 hn hr.1,Q7,fD hr.2]
theorem MB (q:Bs)(_:Yl q):K6 ([44,32]++q)∧WN 1 ([44,32]++q)∧cur (skip ([44,32]++q))≠[63]:=
 have h:cur (skip ([44,32]++q))=[44]:=by rw[show skip ([44,32]++q)=[44]++(32::q)from Ju rfl (by decide)];exact(ZI rfl).cur
 ⟨Kx (Qw rfl) h (by decide),Ii h rfl,by rw[h];decide⟩
theorem Ey {t:Bs}{c:UInt8}(hs:Yl t)(hc:QO c=false):cur t≠[c]:=by
 obtain⟨d,t,rfl,hd⟩:=hs
 unfold cur
 cases hn:Z3 (d::t)with
 |zero=>simp
 |succ k=>rw[List.take_succ_cons];intro e2;simp only[fQ]at e2;rw[e2.1]at hd;rw[hd]at hc;cases hc
theorem KY {w r u:Bs}(h:skip u=w++r)(ht:Zw w r):Qk w (skip u)=.ok () (skip r):=by rw[h];exact Ub ht
theorem N3 {α:Type}{one:Nat→Bs→Res α}{tx:α→Bs}{F:Bs→Prop}(hF:∀q,Yl q→F ([44,32]++q)){r:Bs}(hr:F (41::r)){l:List α}(hl:∀a∈l,Yl (tx a))
 (h1:∀a∈l,∀r,F r→Jn (fun f=>one f (tx a++r)) (.ok a (skip r))):Jn (fun f=>U7 (one f) f (skip (Lib.join (l.map tx) [44,32]++(41::r)))) (.ok l (skip r)):=by
 have c41:cur (skip (41::r))=[41]:=Wz rfl rfl (by decide)
 have m41:Qk [41] (skip (41::r))=.ok () (skip r):=KY (Ju rfl (by decide)) (ZI rfl)
 cases l with
 |nil=>
  refine Jn.of fun f=> ?_
  have:skip (Lib.join (List.map tx []) [44,32]++(41::r))=[41]++r:=Ju rfl (by decide)
  rw[this,U7,fC (ZI rfl).cur,(ZI rfl).adv]
 |cons x xs=>
  have hl':=Io (one:=one) (tx:=tx) (sep:=[44]) (sepT:=[44,32]) (F:=F) KT hF (r:=41::r) hr (by rw[c41];decide) (l:=x::xs) (by simp) hl h1
  have hs:Yl (Lib.join ((x::xs).map tx) [44,32]++(41::r)):=by
   rw[cJ,Lib.join_cons,cU];exact(hl x (by simp)).app
  rw[hs.skip]
  refine Jn.cg (Jn.bind (k:=fun _ l u1=>(Qk [41] u1).bind fun _ u2=>.ok l u2) hl' (Jn.of fun f=>by rw[m41];rfl)) fun f=> ?_
  rw[U7,fD (Ey hs rfl)]
theorem EO {n:Bs}(hn:Qf n=true){xs:List Exp}(h:∀x∈xs,PK x (Qz x)):PK (.mk 19 n 0 xs) (n++[40]++Lib.join (xs.map Qz) [44,32]++[41]):=by
 refine L2 (by simp only[cU];exact(J3 hn).app) fun r hr=> ?_
 have e:n++[40]++Lib.join (xs.map Qz) [44,32]++[41]++r=n++([40]++(Lib.join (xs.map Qz) [44,32]++(41::r))):=by simp
 rw[e]
 have hc:Ul ([40]++(Lib.join (xs.map Qz) [44,32]++(41::r))):=Qw rfl
 have c41:cur (skip (41::r))=[41]:=Wz rfl rfl (by decide)
 have hp:=N3 (one:=fun f u=>QZ f u) (tx:=Qz) (F:=fun r=>K6 r∧WN 1 r∧cur (skip r)≠[63]) MB (r:=r)
  ⟨Kx (Qw rfl) c41 (by decide),Ii c41 rfl,by rw[c41];decide⟩ (l:=xs) (fun a ha=>(h a ha).sol) (fun a ha r hr=>(h a ha).ex r hr.1 hr.2.1 hr.2.2)
 refine LI (Jn.step (Jn.bind (k:=fun _ l u2=>Res.ok (Exp.mk 19 n 0 l) u2) hp Jn.const) fun f=> ?_) (UO hn hc rfl) (UO hn hc rfl)
 simp only[JU]
 rw[fD (by rw[Kf hn];decide),fD (UO hn hc rfl),Y7 hn hc,Q7]
 have:skip ([40]++(Lib.join (xs.map Qz) [44,32]++(41::r)))=[40]++(Lib.join (xs.map Qz) [44,32]++(41::r)):=Ju rfl (by decide)
 rw[this,fC (ZI rfl).cur,(ZI rfl).adv]
theorem RU {c:UInt8}{k:Int}{x:Exp}{t:Bs}(hs:Yl t)(ht:∀r,Zw [c] (t++r))(hx:Un x t)(hc:c=33∧k=4∨c=45∧k=3∧∀r,JK (t++r)=false):Un (.mk k [] 0 [x]) (c::t):=fun r hr=>by
 have e:c::t++r=[c]++(t++r):=rfl
 rw[e]
 refine Jn.step (Jn.bind (k:=fun _ x u1=>Res.ok (Exp.mk k [] 0 [x]) u1) (hx r hr) Jn.const) fun f=> ?_
 simp only[Zq]
 rcases hc with⟨rfl,rfl⟩|⟨rfl,rfl,hn⟩
 ·rw[fC (ht r).cur,(ht r).adv,hs.skip_app]
 ·rw[fD (by rw[(ht r).cur];decide),fC (show cur _=YC from(ht r).cur),(ht r).adv,hs.skip_app,fD (by rw[hn];decide)]
theorem Df {x:Exp}(hw:JA x=true)(hp:6≤J4 x.kind)(h1:¬(x.kind=1∧0≤x.int))(r:Bs):JK (Qz x++r)=false:=by
 obtain⟨k,n,i,xs⟩:=x
 simp only[JA,cD]at hw
 obtain⟨hh,_⟩:=hw
 simp only[Vf,cD]at hh
 obtain⟨⟨⟨ha,_⟩,_⟩,hn⟩:=hh
 simp only[Exp.kind,Exp.int]at hp h1
 have hk:k=1∨k=2∨k=3∨k=4∨k=19∨k=18∨(5≤k∧k≤17):=by
  unfold Zu at ha
  split at ha
  ·cases ha
  ·rename_i h;split at h
   ·omega
   ·split at h
    ·omega
    ·split at h
     ·omega
     ·split at h
      ·omega
      ·split at h
       ·omega
       ·cases h
  ·rename_i h;split at h
   ·omega
   ·split at h
    ·omega
    ·split at h
     ·omega
     ·split at h
      ·omega
      ·split at h
       ·omega
       ·cases h
 rw[Qz]
 rcases hk with rfl|rfl|rfl|rfl|rfl|rfl|hk
 ·have:i<0:=by omega
  show JK (Lib.itoa i++r)=false
  rcases Ke i with⟨u,e1,e⟩|⟨u,h0,e1,e⟩
  ·omega
  ·rw[e];rfl
 ·simp only[Or.inl rfl,true_or,if_true]at hn
  exact Kf hn
 ·rfl
 ·rfl
 ·simp only[or_true,if_true]at hn
  show JK (n++[40]++_++[41]++r)=false
  simp only[cU]
  exact Kf hn
 ·exact absurd hp (by decide)
 ·have:=HK hk
  omega
theorem Tj:∀{xs:List Exp},IA xs=true→∀x∈xs,JA x=true
 |[],_,_,h=>by cases h
 |a::l,hw,x,h=>by
  simp only[IA,cD]at hw
  rcases dT.1 h with e|h
  ·rw[e];exact hw.1
  ·exact Tj hw.2 x h
mutual
theorem Ih:∀(x:Exp),JA x=true→PK x (Qz x)
 | .mk k n i xs,hw=>by
  simp only[JA,cD]at hw
  obtain⟨hh,hws⟩:=hw
  have hxs:=Sj xs hws
  have hwf:=Tj hws
  simp only[Vf,cD]at hh
  obtain⟨⟨⟨ha,hi⟩,hI⟩,hn⟩:=hh
  have i0:k≠1→i=0:=fun h=>by simpa[h]using hi
  have n0:k≠2→k≠19→n=[]:=fun h h'=>by simpa[h,h']using hn
  rw[Qz,IL]
  by_cases k1:k=1
  ·subst k1
   obtain rfl:xs=[]:=by simpa[Zu]using ha
   rw[n0 (by decide) (by decide)]
   exact AT hI
  rw[i0 k1]
  by_cases k2:k=2
  ·subst k2
   obtain rfl:xs=[]:=by simpa[Zu]using ha
   exact EN (by simpa using hn)
  by_cases T7:k=19
  ·subst T7
   exact EO (by simpa using hn) hxs
  rw[n0 k2 T7]
  by_cases k3:k=3
  ·subst k3
   obtain⟨a,rfl⟩:∃a,xs=[a]:=fZ.1 (by simpa[Zu]using ha.symm)
   have hp:=hxs a (by simp)
   show PK (.mk 3 [] 0 [a]) (45::Je (if a.kind=1∧0≤a.int then 8 else 6) a.kind (Qz a))
   refine L2 AI (RU (hp.psol _) (fun r=>OH (hp.psol _)) (hp.pun (by split <;> omega)) (.inr ⟨rfl,rfl,fun r=> ?_⟩))
   by_cases h1:a.kind=1∧0≤a.int
   ·rw[fC h1,Je,fC (by rw[h1.1];decide)];rfl
   ·rw[fD h1,Je]
    split
    ·rfl
    ·exact Df (hwf a (by simp)) (by omega) h1 r
  by_cases k4:k=4
  ·subst k4
   obtain⟨a,rfl⟩:∃a,xs=[a]:=fZ.1 (by simpa[Zu]using ha.symm)
   have hp:=hxs a (by simp)
   show PK (.mk 4 [] 0 [a]) (33::Je 6 a.kind (Qz a))
   exact L2 AK (RU (hp.psol _) (fun r=>GM (hp.psol _)) (hp.pun (by omega)) (.inl ⟨rfl,rfl⟩))
  by_cases k18:k=18
  ·subst k18
   obtain⟨a,b,c,rfl⟩:∃a b c,xs=[a,b,c]:=by
    have:xs.length=3:=by simpa[Zu]using ha.symm
    match xs,this with
    |[a,b,c],_=>exact⟨a,b,c,rfl⟩
   have pa:=hxs a (by simp)
   have pb:=hxs b (by simp)
   have pc:=hxs c (by simp)
   show PK (.mk 18 [] 0 [a,b,c]) (Je 1 a.kind (Qz a)++[32,63,32]++Qz b++[32,58,32]++Qz c)
   refine{sol:=by simp only[cU];exact(pa.psol 1).app,fu:=fun n h _ h2=>absurd (show n≤0 from h2) (by omega),lo:=fun n h _ h2 _=>absurd (show n≤0 from h2) (by omega),un:=fun h=>absurd (show 6≤0 from h) (by omega),ex:=fun r hr hN hq=> ?_}
   have e:Je 1 a.kind (Qz a)++[32,63,32]++Qz b++[32,58,32]++Qz c++r=Je 1 a.kind (Qz a)++(32::63::32::(Qz b++(32::58::32::(Qz c++r)))):=by simp
   rw[e]
   have s1:skip (32::63::32::(Qz b++(32::58::32::(Qz c++r))))=[63]++(32::(Qz b++(32::58::32::(Qz c++r)))):=by rw[Z6];exact Ju rfl (by decide)
   have s2:skip (32::58::32::(Qz c++r))=[58]++(32::(Qz c++r)):=by rw[Z6];exact Ju rfl (by decide)
   have c1:=congrArg cur s1;rw[(ZI rfl).cur]at c1
   have c2:=congrArg cur s2;rw[(ZI rfl).cur]at c2
   have h1:=pa.pfu (n:=1) (by omega) (by omega) _ (Kx (Qw rfl) c1 (by decide)) (Ii c1 rfl)
   have h2:=pb.ex _ (Kx (Qw rfl) c2 (by decide)) (Ii c2 rfl) (by rw[c2];decide)
   have h3:=pc.ex r hr hN hq
   refine Jn.step (Jn.bind (k:=fun f x u1=>if cur u1=[63]then
    (QZ f (adv u1)).bind fun a u2=>(Qk [58] u2).bind fun _ u3=>(QZ f u3).bind fun b u4=>.ok (.mk 18 [] 0 [x,a,b]) u4
    else .ok x u1) h1 ?_) fun f=>by simp only[QZ]
   rw[s1]
   refine Jn.cg (Jn.bind (k:=fun f y u2=>(Qk [58] u2).bind fun _ u3=>(QZ f u3).bind fun b u4=>.ok (.mk 18 [] 0 [a,y,b]) u4) h2 ?_) fun f=>by rw[fC (ZI rfl).cur,(ZI rfl).adv,Z6,pb.sol.skip_app]
   rw[s2]
   refine Jn.cg (Jn.bind (k:=fun f z u4=>.ok (.mk 18 [] 0 [a,b,z]) u4) h3 Jn.const) fun f=>by rw[Ub (ZI rfl),Q7,Z6,pc.sol.skip_app]
  have hk:5≤k∧k≤17:=by
   unfold Zu at ha
   rw[fD (by omega),fD (by omega)]at ha
   by_cases h:5≤k∧k≤17
   ·exact h
   ·rw[fD h,fD k18,fD T7]at ha;cases ha
  obtain⟨a,b,rfl⟩:∃a b,xs=[a,b]:=by
   unfold Zu at ha
   rw[fD (by omega),fD (by omega),fC hk]at ha
   have:xs.length=2:=by simpa using ha.symm
   match xs,this with
   |[a,b],_=>exact⟨a,b,rfl⟩
  have:=jA hk (hxs a (by simp)) (hxs b (by simp))
  unfold Vu
  rw[fD k1,fD k2,fD k3,fD k4,fD k18,fD T7]
  exact this
theorem Sj:∀(xs:List Exp),IA xs=true→∀x∈xs,PK x (Qz x)
 |[],_,_,h=>by cases h
 |a::l,hw,x,h=>by
  simp only[IA,cD]at hw
  rcases dT.1 h with e|h
  ·rw[e];exact Ih a hw.1
  ·exact Sj l hw.2 x h
end
end Go.Proofs.YtcbjbgaefighcaaGreatDoor
