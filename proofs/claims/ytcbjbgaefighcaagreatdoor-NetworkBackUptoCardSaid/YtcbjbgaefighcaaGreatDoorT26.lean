/- Part 26 of the proof. -/
import Derived.Test.YtcbjbgaefighcaaGreatDoorT0
import Derived.Test.YtcbjbgaefighcaaGreatDoorT16
import Derived.Test.YtcbjbgaefighcaaGreatDoorT23
import Derived.Test.YtcbjbgaefighcaaGreatDoorT25
import Derived.Lib.Join
import Derived.Lib.ItoaNum
set_option linter.all false
namespace Go.Proofs.YtcbjbgaefighcaaGreatDoor
open Go Go.Ax Go.Proofs
def Gd {α:Type}(Q:α→Prop)(p:Bs→Res α):Prop:=∀s u a u',At s u→s.length≤20000→p u=.ok a u'→Q a∧At s u'
def GL {α:Type}(Q:α→Prop)(l:List α):Prop:=(∀x∈l,Q x)∧l.length≤20000
theorem Qz {n:Bs}(h:Qe n=true):n.length≤16:=by
 unfold Qe at h
 split at h
 ·cases h
 ·simp only[cD,dZ]at h;exact h.1.1.1
section
variable {α β:Type}{Q:α→Prop}{R:β→Prop}
theorem ZI {a:α}(h:Q a):Gd Q fun u=>.ok a u:=fun s u a' u' hu _ e=>by cases e;exact⟨h,hu⟩
theorem Qj {p:Bs→Res α}{k:α→Bs→Res β}(hp:Gd Q p)(hk:∀a,Q a→Gd R (k a)):Gd R fun u=>(p u).bind k:=fun s u b u' hu hs e=>by
 obtain⟨a,u1,h1,h2⟩:=bind_ok e
 obtain⟨q,hu1⟩:=hp _ _ _ _ hu hs h1
 exact hk a q _ _ _ _ hu1 hs h2
theorem gd_true {p:Bs→Res α}(h:Ws p):Gd (fun _=>True) p:=fun s u a u' hu _ e=>⟨trivial,(h _ _ _ _ hu e).at'⟩
theorem ZD {w:Bs}(hw:w≠[]):Gd (fun _=>True) (Ql w):=gd_true (Qn hw).tk0
theorem Yo:Gd (fun n=>Qe n=true) Za:=fun s u a u' hu _ e=>by
 refine⟨?_,(QM _ _ _ _ hu e).at'⟩
 unfold Za at e
 split at e
 ·cases e;assumption
 ·cases e
theorem Ld {b:Bool}:Gd (fun n=>ZJ n=true) (JW b):=fun s u a u' hu _ e=>by
 refine⟨?_,(Kv _ _ _ _ hu e).at'⟩
 unfold JW at e
 split at e
 ·split at e
  ·cases e
  ·rename_i h
   cases e
   simp only[ZJ,dZ]
   split <;> omega
 ·cases e
theorem Y3 {p:Bs→Res α}(h:Gd Q p):Gd Q fun u=>p (adv u):=fun s u a u' hu hs e=>h _ _ _ _ hu.adv hs e
theorem JT {c:Bs→Prop}[∀u,Decidable (c u)]{p q:Bs→Res α}(hp:Gd Q p)(hq:Gd Q q):Gd Q fun u=>if c u then p u else q u:=fun s u a u' hu hs e=>by
 simp only at e
 split at e
 ·exact hp _ _ _ _ hu hs e
 ·exact hq _ _ _ _ hu hs e
theorem UM:Gd (fun n=>ZJ n=true) JK:=JT (Y3 Ld) Ld
theorem Wj {w:Bs}{d:α}{p:Bs→Res α}(hd:Q d)(hp:Gd Q p):Gd Q (Jk w d p):=JT (Y3 hp) (ZI hd)
theorem jS:Gd Q fun u=>(.bad u:Res α):=fun s u a u' hu hs e=>by cases e
theorem Nt {sep:Bs}{one:Bs→Res α}(hs:sep≠[])(ht:Tk one)(h1:Gd Q one):∀f l s u a u',At s u→s.length≤20000→(∀x∈l,Q x)→l.length+u.length≤20000→J9 sep one f l u=.ok a u'→GL Q a∧At s u'
 |0,_,_,_,_,_,_,_,_,_,h=>by simp [J9]at h
 |f+1,l,s,u,a,u',hu,hl,hq,hn,h=>by
  simp only[J9]at h
  split at h
  ·rename_i hc
   have b0:=Beh.adv hu hc hs
   obtain⟨x,u1,h2,h⟩:=bind_ok h
   have b1:=ht _ _ _ _ b0.at' h2
   have:=b0.lt;have:=b1.lt
   have q:=(h1 _ _ _ _ b0.at' hl h2).1
   exact Nt hs ht h1 f _ _ _ _ _ b1.at' hl (fun y hy=>by
    rcases fW.1 hy with hy|hy
    ·exact hq y hy
    ·simp only[dV]at hy;subst hy;exact q) (by simp only[cC,cQ];omega) h
  ·cases h;exact⟨⟨hq,by omega⟩,hu⟩
theorem Kq {sep:Bs}{one:Bs→Res α}(hs:sep≠[])(ht:Tk one)(h1:Gd Q one){f:Nat}:Gd (GL Q) (ZV sep one f):=fun s u a u' hu hl h=>by
 obtain⟨x,u1,h2,h⟩:=bind_ok h
 have b1:=ht _ _ _ _ hu h2
 have:=b1.lt;have:=hu.le
 have q:=(h1 _ _ _ _ hu hl h2).1
 exact Nt hs ht h1 f _ _ _ _ _ b1.at' hl (fun y hy=>by simp only[dV]at hy;subst hy;exact q) (by simp only[cQ];omega) h
theorem X8:GL Q ([]:List α):=⟨fun _ h=>(by cases h),by simp⟩
theorem Nu {one:Bs→Res α}(ht:Tk one)(h1:Gd Q one){f:Nat}:Gd (GL Q) (Uf one f):=
 JT (Y3 (ZI X8)) (Qj (Kq (by decide) ht h1) fun l hl=>Qj (ZD (by decide)) fun _ _=>ZI hl)
theorem Rc {one:Bs→Res α}(ht:Tk one)(h1:Gd Q one):∀f l s u a u',At s u→s.length≤20000→(∀x∈l,Q x)→l.length+u.length≤20000→ZE one f l u=.ok a u'→GL Q a∧At s u'
 |0,_,_,_,_,_,_,_,_,_,h=>by simp [ZE]at h
 |f+1,l,s,u,a,u',hu,hl,hq,hn,h=>by
  simp only[ZE]at h
  split at h
  ·cases h;exact⟨⟨hq,by omega⟩,hu.adv⟩
  ·obtain⟨x,u1,h2,h⟩:=bind_ok h
   have b1:=ht _ _ _ _ hu h2
   have:=b1.lt
   have q:=(h1 _ _ _ _ hu hl h2).1
   exact Rc ht h1 f _ _ _ _ _ b1.at' hl (fun y hy=>by
    rcases fW.1 hy with hy|hy
    ·exact hq y hy
    ·simp only[dV]at hy;subst hy;exact q) (by simp only[cC,cQ];omega) h
theorem SG {w:Bs}(hw:w≠[]){one:Bs→Res α}(ht:Ws one)(h1:Gd Q one):∀f l s u a u',At s u→s.length≤20000→(∀x∈l,Q x)→l.length+u.length≤20000→Jg w one f l u=.ok a u'→GL Q a∧At s u'
 |0,_,_,_,_,_,_,_,_,_,h=>by simp [Jg]at h
 |f+1,l,s,u,a,u',hu,hl,hq,hn,h=>by
  simp only[Jg]at h
  split at h
  ·rename_i hc
   have b0:=Beh.adv hu hc hw
   obtain⟨x,u1,h2,h⟩:=bind_ok h
   have b1:=ht _ _ _ _ b0.at' h2
   have:=b0.lt;have:=b1.le
   have q:=(h1 _ _ _ _ b0.at' hl h2).1
   exact SG hw ht h1 f _ _ _ _ _ b1.at' hl (fun y hy=>by
    rcases fW.1 hy with hy|hy
    ·exact hq y hy
    ·simp only[dV]at hy;subst hy;exact q) (by simp only[cC,cQ];omega) h
  ·cases h;exact⟨⟨hq,by omega⟩,hu⟩
theorem HP {w:Bs}(hw:w≠[]){one:Bs→Res α}(ht:Ws one)(h1:Gd Q one){f:Nat}:Gd (GL Q) (Jg w one f []):=fun s u a u' hu hs h=>
 SG hw ht h1 f [] s u a u' hu hs (fun _ h=>(by cases h)) (by have:=hu.le;simp only[cL];omega) h
theorem Gu {one:Bs→Res α}(ht:Tk one)(h1:Gd Q one){f:Nat}:Gd (GL Q) (ZE one f []):=fun s u a u' hu hs h=>
 Rc ht h1 f [] s u a u' hu hs (fun _ h=>(by cases h)) (by have:=hu.le;simp only[cL];omega) h
end
def QE (x:Exp):Prop:=ZC x=true∧VS x
theorem Dg {l:List Exp}(h:∀x∈l,QE x):Ix l=true∧Hy l:=by
 refine⟨?_,?_⟩
 ·rw[Xb,cH];exact fun x hx=>(h x hx).1
 ·induction l with
  |nil=>trivial
  |cons a l ih=>exact⟨(h a (dO ..)).2,ih fun x hx=>h x (dI _ hx)⟩
theorem IE {k:Int}{n:Bs}{i:Int}{l:List Exp}(h:Yf k n i l.length=true)(hn:n.length<2^60)(hl:GL QE l):QE (.mk k n i l):=by
 obtain⟨h1,h2⟩:=Dg hl.1
 exact⟨by simp only[ZC,h,h1,fX],hn,by have:=hl.2;omega,h2⟩
theorem Gb {n:Nat}{t:Bs}{k:Int}(h:JE n t=some k):5≤k∧k≤17:=by
 have hm:(t,k)∈ZH n:=by
  unfold JE at h
  have:∀l:List (Bs×Int),l.lookup t=some k→(t,k)∈l:=by
   intro l
   induction l with
   |nil=>intro h;cases h
   |cons p l ih=>
    intro h
    obtain⟨a,b⟩:=p
    rw[List.lookup_cons]at h
    split at h
    ·rename_i e
     simp only[beq_iff_eq]at e
     simp only[cA]at h
     subst e h;exact dO ..
    ·exact dI _ (ih h)
  exact this _ h
 have hn:n=1∨n=2∨n=3∨n=4∨n=5:=by
  match n,hm with
  |1,_=>simp
  |2,_=>simp
  |3,_=>simp
  |4,_=>simp
  |5,_=>simp
 rcases hn with rfl|rfl|rfl|rfl|rfl <;> simp only[ZH,dT,dL,or_false,cW]at hm <;> omega
theorem PB {k:Int}(h:5≤k∧k≤17):Yf k [] 0 2=true:=by
 have e:Zo k=some (some 2):=by
  have h1:¬(k=1∨k=2):=by omega
  have h2:¬(k=3∨k=4):=by omega
  simp only[Zo,h1,h2,h,and_self,if_true,if_false]
 have e2:¬(k=2∨k=19):=by omega
 simp [Yf,e,e2,ZJ]
theorem Nr {α:Type}{Q:α→Prop}{a:α}(h:Q a):GL Q [a]:=⟨fun x hx=>by simp only[dV]at hx;subst hx;exact h,by simp⟩
theorem jP {α:Type}{Q:α→Prop}{a b:α}(h:Q a)(h2:Q b):GL Q [a,b]:=⟨fun x hx=>by simp only[dT,dL,or_false]at hx;rcases hx with rfl|rfl <;> assumption,by simp⟩
theorem E7 {α:Type}{Q:α→Prop}{a b c:α}(h:Q a)(h2:Q b)(h3:Q c):GL Q [a,b,c]:=⟨fun x hx=>by simp only[dT,dL,or_false]at hx;rcases hx with rfl|rfl|rfl <;> assumption,by simp⟩
theorem Nm {n:Int}(h:ZJ n=true):QE (.mk 1 [] n []):=IE (by simp [Yf,Zo,h]) (by simp) X8
structure GdE (f:Nat):Prop where
 e:Gd QE (Z0 f)
 r:∀n,Gd QE (JA f n)
 l:∀n x,QE x→Gd QE (ZU f n x)
 u:Gd QE (Zv f)
 p:Gd QE (JX f)
theorem gdE:∀f,GdE f
 |0=>⟨fun _ _ _ _ _ _ h=>by simp [Z0]at h,fun _ _ _ _ _ _ _ h=>by simp [JA]at h,fun _ _ _ _ _ _ _ _ _ h=>by simp [ZU]at h,fun _ _ _ _ _ _ h=>by simp [Zv]at h,fun _ _ _ _ _ _ h=>by simp [JX]at h⟩
 |f+1=>by
  have ih:=gdE f
  have tk:=Hk f
  refine⟨?_,?_,?_,?_,?_⟩
  ·have:Gd QE fun u=>(JA f 1 u).bind fun x u1=>if cur u1=[63]then(Z0 f (adv u1)).bind fun a u2=>(Ql [58] u2).bind fun _ u3=>(Z0 f u3).bind fun b u4=>.ok (.mk 18 [] 0 [x,a,b]) u4 else .ok x u1:=
    Qj (ih.r 1) fun x hx=>JT (Y3 (Qj ih.e fun a ha=>Qj (ZD (by decide)) fun _ _=>Qj ih.e fun b hb=>ZI (IE (by rfl) (by simp) (E7 hx ha hb)))) (ZI hx)
   intro s u a u' hu hs h
   simp only[Z0]at h
   exact this _ _ _ _ hu hs h
  ·intro n s u a u' hu hs h
   simp only[JA]at h
   split at h
   ·exact ih.u _ _ _ _ hu hs h
   ·exact(Qj (ih.r (n+1)) fun x hx=>ih.l n x hx) _ _ _ _ hu hs h
  ·intro n x hx s u a u' hu hs h
   simp only[ZU]at h
   split at h
   ·cases h;exact⟨hx,hu⟩
   ·rename_i k hk
    obtain⟨y,u1,h1,h⟩:=bind_ok h
    obtain⟨hy,hu1⟩:=ih.r _ _ _ _ _ hu.adv hs h1
    have hq:QE (.mk k [] 0 [x,y]):=IE (PB (Gb hk)) (by simp) (jP hx hy)
    split at h
    ·cases h;exact⟨hq,hu1⟩
    ·exact ih.l _ _ hq _ _ _ _ hu1 hs h
  ·intro s u a u' hu hs h
   simp only[Zv]at h
   exact(JT (c:=fun u=>cur u=[33]) (Y3 (Qj ih.u fun x hx=>ZI (IE (by rfl) (by simp) (Nr hx)))) (JT (c:=fun u=>cur u=YI) (JT (c:=fun u=>JP (adv u)=true) (Y3 (Qj Ld fun n hn=>ZI (Nm hn)))
    (Y3 (Qj ih.u fun x hx=>ZI (IE (by rfl) (by simp) (Nr hx))))) ih.p)) _ _ _ _ hu hs h
  ·intro s u a u' hu hs h
   simp only[JX]at h
   exact(JT (c:=fun u=>JP u=true) (Qj Ld fun n hn=>ZI (Nm hn)) (JT (c:=fun u=>cur u=[40]) (Y3 (Qj ih.e fun x hx=>Qj (ZD (by decide)) fun _ _=>ZI hx))
    (Qj Yo fun n hn=>JT (c:=fun u=>cur u=[40]) (Y3 (Qj (Nu tk.e ih.e) fun l hl=>ZI (IE (by simp [Yf,Zo,ZJ,hn]) (by have:=Qz hn;omega) hl)))
     (ZI (IE (by simp [Yf,Zo,ZJ,hn]) (by have:=Qz hn;omega) X8))))) _ _ _ _ hu hs h
theorem Oy {f:Nat}:Gd QE (Z0 f):=(gdE f).e
def QS (x:Stmt):Prop:=Uq x=true∧KO x
theorem LQ {l:List Stmt}(h:∀x∈l,QS x):UX l=true∧K4 l:=by
 induction l with
 |nil=>exact⟨rfl,trivial⟩
 |cons a l ih=>
  obtain⟨h1,h2⟩:=ih fun x hx=>h x (dI _ hx)
  obtain⟨h3,h4⟩:=h a (dO ..)
  exact⟨by simp only[UX,h3,h1,fX],h4,h2⟩
theorem L0 {k:Int}{n:Bs}{v:Exp}{b e:List Stmt}(h:Wu k n b.length e.length=true)(hn:n.length<2^60)(hv:QE v)(hb:GL QS b)(he:GL QS e):QS (.mk k n v b e):=by
 obtain⟨h1,h2⟩:=LQ hb.1
 obtain⟨h3,h4⟩:=LQ he.1
 exact⟨by simp only[Uq,h,h1,h3,hv.1,fX],hn,hv.2,by have:=hb.2;omega,by have:=he.2;omega,h2,h4⟩
structure GdS (f:Nat):Prop where
 b:Gd (GL QS) (ZF f)
 s:Gd QS (ZL f)
theorem Ns {f:Nat}{k:Int}(hk:k=1∨k=2):Gd QS fun u=>(Za u).bind fun n u1=>(Ql [61] u1).bind fun _ u2=>(Z0 f u2).bind fun x u3=>(Ql [59] u3).bind fun _ u4=>.ok (Stmt.mk k n x [] []) u4:=
 Qj Yo fun n hn=>Qj (ZD (by decide)) fun _ _=>Qj Oy fun x hx=>Qj (ZD (by decide)) fun _ _=>ZI (L0 (by rcases hk with rfl|rfl <;> simp [Wu,hn]) (by have:=Qz hn;omega) hx X8 X8)
theorem gdS:∀f,GdS f
 |0=>⟨fun _ _ _ _ _ _ h=>by simp [ZF]at h,fun _ _ _ _ _ _ h=>by simp [ZL]at h⟩
 |f+1=>by
  have ih:=gdS f
  have tk:=HW f
  refine⟨?_,?_⟩
  ·intro s u a u' hu hs h
   simp only[ZF]at h
   exact(Qj (ZD (by decide)) fun _ _=>Gu tk.s ih.s) _ _ _ _ hu hs h
  ·intro s u a u' hu hs h
   simp only[ZL]at h
   exact(JT (c:=fun u=>cur u=JM) (Y3 (Qj (ZD (by decide)) fun _ _=>Qj Oy fun x hx=>Qj (ZD (by decide)) fun _ _=>Qj ih.b fun b hb=>
    JT (c:=fun u=>cur u=VM) (Y3 (Qj ih.b fun e he=>ZI (L0 (by simp [Wu]) (by simp) hx hb he))) (ZI (L0 (by simp [Wu]) (by simp) hx hb X8))))
    (JT (c:=fun u=>cur u=YH) (Y3 (Qj (ZD (by decide)) fun _ _=>Qj Oy fun x hx=>Qj (ZD (by decide)) fun _ _=>Qj ih.b fun b hb=>ZI (L0 (by simp [Wu]) (by simp) hx hb X8)))
    (JT (c:=fun u=>cur u=VV) (Y3 (Qj Oy fun x hx=>Qj (ZD (by decide)) fun _ _=>ZI (L0 (by simp [Wu]) (by simp) hx X8 X8)))
    (JT (c:=fun u=>cur u=VE) (Y3 (Ns (.inl rfl))) (Ns (.inr rfl)))))) _ _ _ _ hu hs h
def QF (f:Func):Prop:=(Qe f.name&&f.params.all Qe&&UX f.body)=true∧HX f
theorem Cd {f:Nat}:Gd QF (V4 f):=
 Qj (ZD (by decide)) fun _ _=>Qj Yo fun n hn=>Qj (ZD (by decide)) fun _ _=>Qj (Nu QM Yo) fun ps hps=>Qj (gdS f).b fun b hb=>ZI (by
  obtain⟨h1,h2⟩:=LQ hb.1
  refine⟨?_,?_,?_,?_,?_,h2⟩
  ·simp only[hn,h1,dB,dC,cH];exact hps.1
  ·have:=Qz hn;show n.length<_;omega
  ·have:=hps.2;show ps.length<_;omega
  ·intro p hp;have:=Qz (hps.1 p hp);omega
  ·have:=hb.2;show b.length<_;omega)
def QT (t:Test):Prop:=Vp t=true
theorem Cb:Gd (fun l=>(∀x∈l,QT x)∧l.length≤2) Wf:=Qj Yo fun n hn=>
 have h1:∀(a b:Bool) (c:Int),ZJ c=true→(∀x∈[(⟨n,a,b,c⟩:Test)],QT x)∧[(⟨n,a,b,c⟩:Test)].length≤2:=fun a b c hc=>⟨fun x hx=>by simp only[dV]at hx;subst hx;simp [QT,Vp,hn,hc],by simp⟩
 JT (c:=fun u=>cur u=[60]) (Y3 (Qj UM fun c hc=>ZI (h1 _ _ c hc))) (JT (c:=fun u=>cur u=[60,61]) (Y3 (Qj UM fun c hc=>ZI (h1 _ _ c hc))) (JT (c:=fun u=>cur u=[62]) (Y3 (Qj UM fun c hc=>ZI (h1 _ _ c hc)))
  (JT (c:=fun u=>cur u=[62,61]) (Y3 (Qj UM fun c hc=>ZI (h1 _ _ c hc))) (JT (c:=fun u=>cur u=[61,61]) (Y3 (Qj UM fun c hc=>ZI ⟨fun x hx=>by simp only[dT,dL,or_false]at hx;rcases hx with rfl|rfl <;> simp [QT,Vp,hn,hc],by simp⟩)) jS))))
theorem Rj {α:Type}{k:Nat}:∀{l:List (List α)},(∀x∈l,x.length≤k)→l.flatten.length≤l.length*k
 |[],_=>by simp
 |x::l,h=>by
  have h1:=h x (dO ..)
  have h2:=Rj fun y hy=>h y (dI x hy)
  simp only[List.flatten_cons,cC,cE,Nat.add_mul];omega
def N2 (l:List Test):Prop:=(∀x∈l,QT x)∧l.length<2^60
theorem Re {f:Nat}:Gd N2 (X6 f):=Qj (Kq (by decide) H4 Cb) fun l hl=>ZI (by
 refine⟨fun x hx=> ?_,?_⟩
 ·obtain⟨y,hy,hx⟩:=List.mem_flatten.1 hx
  exact(hl.1 y hy).1 x hx
 ·have:=Rj fun x hx=>(hl.1 x hx).2
  have:=hl.2;omega)
theorem EA {l:List Test}(h:N2 l):∀t∈l,t.clock.length<2^60:=fun t ht=>by
 have:=h.1 t ht
 simp only[QT,Vp,cD]at this
 have:=Qz this.1;omega
theorem Nl {l:List Test}(h:N2 l):l.all Vp=true:=cH.2 h.1
def QL (l:Loc):Prop:=Vm l=true∧ltL l
theorem vK:Gd (fun k=>0≤k∧k≤2) Yl:=JT (c:=fun u=>cur u=Zq) (Y3 (ZI (by omega))) (JT (c:=fun u=>cur u=YT) (Y3 (ZI (by omega))) (ZI (by omega)))
theorem jR {f:Nat}:Gd QL (WZ f):=Qj Yo fun n hn=>Qj vK fun k hk=>Qj (Wj (Q:=N2) ⟨fun _ h=>(by cases h),by simp⟩ Re) fun i hi=>Qj (Wj (Q:=fun n=>ZJ n=true) rfl UM) fun r hr=>Qj (ZD (by decide)) fun _ _=>ZI
 ⟨by simp only[Vm,hn,hk,Nl hi,hr,and_self,decide_true,fX],by have:=Qz hn;show n.length<_;omega,hi.2,EA hi⟩
def QX (x:Exp):Prop:=(isNone x||ZC x)=true∧Hl x
theorem SH {f:Nat}:Gd (fun x=>QE x∧Hl x) (Z0 f):=fun s u a u' hu hs h=>by
 obtain⟨h1,h2⟩:=Oy _ _ _ _ hu hs h
 have hw:=On _ _ _ _ hu h
 have:=hu.le
 simp only[YK]at hw
 exact⟨⟨h1,h1.2,by omega⟩,h2⟩
theorem Cg {f:Nat}:Gd QX (Z0 f):=fun s u a u' hu hs h=>by
 obtain⟨⟨h1,h2⟩,h3⟩:=SH _ _ _ _ hu hs h
 exact⟨⟨by rw[h1.1,dQ],h2⟩,h3⟩
theorem Df:QX JO:=⟨rfl,⟨by decide,by decide,trivial⟩,by decide⟩
def QA (a:Assign):Prop:=(Qe a.name&&ZC a.val)=true∧a.name.length<2^60∧Hl a.val
theorem Gv {f:Nat}:Gd QA (VY f):=Qj Yo fun n hn=>Qj (ZD (by decide)) fun _ _=>Qj SH fun x hx=>ZI
 ⟨by simp only[hn,hx.1.1,fX],by have:=Qz hn;show n.length<_;omega,hx.2⟩
def QC (c:Clear):Prop:=(Qe c.clock&&ZJ c.tv)=true
theorem E9:Gd QC UL:=Qj Yo fun n hn=>Qj (ZD (by decide)) fun _ _=>Qj UM fun x hx=>ZI (by simp only[QC,hn,hx,fX])
def QN (c:Bs×Bool):Prop:=(c.1.isEmpty=true∧c.2=false)∨Qe c.1=true
theorem Ch:Gd QN WI:=Qj Yo fun n hn=>JT (c:=fun u=>cur u=[33]) (Y3 (ZI (.inr hn))) (Qj (ZD (by decide)) fun _ _=>ZI (.inr hn))
def QD (x:Edge):Prop:=Y2 x=true∧Iz x
theorem Ce {f:Nat}:Gd QD (Xq f):=
 Qj Yo fun a ha=>Qj (ZD (by decide)) fun _ _=>Qj Yo fun b hb=>Qj (Wj (Q:=N2) ⟨fun _ h=>(by cases h),by simp⟩ Re) fun ts hts=>Qj (Wj Df Cg) fun c hc=>
 Qj (Wj (.inl ⟨rfl,rfl⟩) Ch) fun ch hch=>Qj (Wj X8 (Kq (by decide) KR Gv)) fun ss hss=>Qj (Wj X8 (Kq (by decide) IH E9)) fun cs hcs=>
 Qj (Wj (Q:=fun n=>ZJ n=true) rfl UM) fun co hco=>Qj (Wj (Q:=fun n=>ZJ n=true) rfl UM) fun k hk=>Qj (ZD (by decide)) fun _ _=>ZI (by
  have h1:ss.all (fun a=>Qe a.name&&ZC a.val)=true:=cH.2 fun x hx=>(hss.1 x hx).1
  have h2:cs.all (fun c=>Qe c.clock&&ZJ c.tv)=true:=cH.2 fun x hx=>hcs.1 x hx
  have h3:((!ch.1.isEmpty|| !ch.2)&&(ch.1.isEmpty||Qe ch.1))=true:=by
   rcases hch with⟨e1,e2⟩|e
   ·simp [e1,e2]
   ·have:ch.1.isEmpty=false:=by cases hc:ch.1 with
     |nil=>rw[hc]at e;cases e
     |cons a b=>rfl
    simp [e,this]
  refine⟨?_,?_,?_,hts.2,EA hts,hc.2,?_,?_,?_,?_,?_⟩
  ·simp only[Y2,ha,hb,Nl hts,hc.1,h1,h2,hco,hk,dC,dB];simpa using h3
  ·have:=Qz ha;show a.length<_;omega
  ·have:=Qz hb;show b.length<_;omega
  ·show ch.1.length<_
   rcases hch with⟨e1,_⟩|e
   ·rw[List.isEmpty_iff]at e1;rw[e1];decide
   ·have:=Qz e;omega
  ·have:=hss.2;show ss.length<_;omega
  ·intro x hx;exact(hss.1 x hx).2
  ·have:=hcs.2;show cs.length<_;omega
  ·intro x hx
   have:=hcs.1 x hx
   simp only[QC,cD]at this
   have:=Qz this.1;omega)
def QP (p:Proc):Prop:=YG p=true∧PY p
theorem Cc {f:Nat}:Gd QP (Xp f):=
 Qj Yo fun n hn=>Qj (ZD (by decide)) fun _ _=>Qj Yo fun i hi=>Qj (ZD (by decide)) fun _ _=>Qj (HP (by decide) Nb.tk0 jR) fun ls hls=>
 Qj (HP (by decide) Si.tk0 Ce) fun es hes=>Qj (ZD (by decide)) fun _ _=>ZI (by
  have h1:ls.all Vm=true:=cH.2 fun x hx=>(hls.1 x hx).1
  have h2:es.all Y2=true:=cH.2 fun x hx=>(hes.1 x hx).1
  refine⟨by simp only[YG,hn,hi,h1,h2,fX],?_,?_,?_,fun x hx=>(hls.1 x hx).2,?_,fun x hx=>(hes.1 x hx).2⟩
  ·have:=Qz hn;show n.length<_;omega
  ·have:=Qz hi;show i.length<_;omega
  ·have:=hls.2;show ls.length<_;omega
  ·have:=hes.2;show es.length<_;omega)
theorem jQ:Gd (fun v=>W5 v=true) Iy:=
 Qj Yo fun n hn=>Qj (ZD (by decide)) fun _ _=>Qj UM fun lo hlo=>Qj (ZD (by decide)) fun _ _=>Qj UM fun hi hhi=>Qj (ZD (by decide)) fun _ _=>Qj UM fun i hi=>ZI (by simp only[W5,hn,hlo,hhi,hi,fX])
theorem IQ {f:Nat}{b g:Bool}:Gd (GL fun c:Chan=>Qe c.name=true) (ZM f b g):=Qj (Kq (by decide) QM Yo) fun l hl=>ZI ⟨fun c hc=>by
 obtain⟨n,hn,rfl⟩:=List.mem_map.1 hc
 exact hl.1 n hn,by rw[lG];exact hl.2⟩
def O7 (k:Nat)(d:Decls):Prop:=(∀c∈d.clocks,Qe c=true)∧(∀v∈d.vars,W5 v=true)∧(∀c∈d.chans,Qe c.name=true)∧d.clocks.length≤k*20000∧d.vars.length≤k*20000∧d.chans.length≤k*20000
theorem Ca {k:Nat}{a b:Decls}(ha:O7 k a)(hb:O7 1 b):O7 (k+1) (a.add b):=by
 obtain⟨a1,a2,a3,a4,a5,a6⟩:=ha
 obtain⟨b1,b2,b3,b4,b5,b6⟩:=hb
 refine⟨fun x hx=> ?_,fun x hx=> ?_,fun x hx=> ?_,?_,?_,?_⟩
 ·exact(fW.1 hx).elim (a1 x) (b1 x)
 ·exact(fW.1 hx).elim (a2 x) (b2 x)
 ·exact(fW.1 hx).elim (a3 x) (b3 x)
 ·show(a.clocks++b.clocks).length≤_;rw[cC];omega
 ·show(a.vars++b.vars).length≤_;rw[cC];omega
 ·show(a.chans++b.chans).length≤_;rw[cC];omega
theorem vJ {l:List Bs}(h:GL (fun n=>Qe n=true) l):O7 1 ⟨l,[],[]⟩:=⟨h.1,fun _ h=>(by cases h),fun _ h=>(by cases h),by have:=h.2;simpa using this,by simp,by simp⟩
theorem vI {v:Var}(h:W5 v=true):O7 1 ⟨[],[v],[]⟩:=⟨fun _ h=>(by cases h),fun x hx=>by simp only[dV]at hx;subst hx;exact h,fun _ h=>(by cases h),by simp,by simp,by simp⟩
theorem Ta {l:List Chan}(h:GL (fun c:Chan=>Qe c.name=true) l):O7 1 ⟨[],[],l⟩:=⟨fun _ h=>(by cases h),fun _ h=>(by cases h),h.1,by simp,by simp,by have:=h.2;simpa using this⟩
theorem Cf {N:Nat}{s u u1:Bs}{x:Decls}(hu:At s u)(hs:s.length≤20000)(h:Yp N u=some (.ok x u1)):O7 1 x∧Beq s u u1:=by
 have key:∀{p:Bs→Res Decls} {w:Bs},Ws p→Gd (O7 1) p→cur u=w→w≠[]→p (adv u)=.ok x u1→O7 1 x∧Beq s u u1:=fun ht hg hc hw e=>by
  have b0:=Beh.adv hu hc hw
  exact⟨(hg _ _ _ _ b0.at' hs e).1,(b0.trans (ht _ _ _ _ b0.at' e)).beq⟩
 unfold Yp at h
 split at h
 ·rename_i hc
  exact key (p:=fun u=>(ZV [44] Za N u).bind fun l u1=>.ok ⟨l,[],[]⟩ u1) (Z3 (VU (by decide) QM).tk0 fun _=>U4) (Qj (Kq (by decide) QM Yo) fun l hl=>ZI (vJ hl)) hc (by decide) (lE h)
 split at h
 ·rename_i hc
  exact key (p:=fun u=>(Iy u).bind fun v u1=>.ok ⟨[],[v],[]⟩ u1) (Z3 N8.tk0 fun _=>U4) (Qj jQ fun l hl=>ZI (vI hl)) hc (by decide) (lE h)
 split at h
 ·rename_i hc
  exact key (p:=fun u=>(ZM N false false u).bind fun l u1=>.ok ⟨[],[],l⟩ u1) (Z3 F4.tk0 fun _=>U4) (Qj IQ fun l hl=>ZI (Ta hl)) hc (by decide) (lE h)
 split at h
 ·rename_i hc
  exact key (p:=fun u=>(Ql J7 u).bind fun _ u1=>(ZM N false true u1).bind fun l u2=>.ok ⟨[],[],l⟩ u2) (Z3 (Qn (by decide)).tk0 fun _=>Z3 F4.tk0 fun _=>U4) (Qj (ZD (by decide)) fun _ _=>Qj IQ fun l hl=>ZI (Ta hl)) hc (by decide) (lE h)
 split at h
 ·rename_i hc
  have h:=lE h
  split at h
  ·rename_i hc2
   have b0:=Beh.adv hu hc (by decide)
   have b1:=Beh.adv b0.at' hc2 (by decide)
   have ht:Ws fun u=>(Ql J7 u).bind fun _ u1=>(ZM N true true u1).bind fun l u2=>(.ok ⟨[],[],l⟩ u2:Res Decls):=Z3 (Qn (by decide)).tk0 fun _=>Z3 F4.tk0 fun _=>U4
   have hg:Gd (O7 1) fun u=>(Ql J7 u).bind fun _ u1=>(ZM N true true u1).bind fun l u2=>(.ok ⟨[],[],l⟩ u2:Res Decls):=Qj (ZD (by decide)) fun _ _=>Qj IQ fun l hl=>ZI (Ta hl)
   exact⟨(hg _ _ _ _ b1.at' hs h).1,((b0.trans b1.beq).trans (ht _ _ _ _ b1.at' h)).beq⟩
  ·exact key (p:=fun u=>(Ql J7 u).bind fun _ u1=>(ZM N true false u1).bind fun l u2=>.ok ⟨[],[],l⟩ u2) (Z3 (Qn (by decide)).tk0 fun _=>Z3 F4.tk0 fun _=>U4) (Qj (ZD (by decide)) fun _ _=>Qj IQ fun l hl=>ZI (Ta hl)) hc (by decide) h
 ·cases h
theorem Rh {N:Nat}:∀f k d s u a u',At s u→s.length≤20000→O7 k d→k+u.length≤20000→Jc N f d u=.ok a u'→O7 20000 a∧At s u'
 |0,_,_,_,_,_,_,_,_,_,_,h=>by simp [Jc]at h
 |f+1,k,d,s,u,a,u',hu,hs,hd,hn,h=>by
  simp only[Jc]at h
  split at h
  ·cases h
   obtain⟨a1,a2,a3,a4,a5,a6⟩:=hd
   have:k*20000≤20000*20000:=fF _ (by omega)
   exact⟨⟨a1,a2,a3,fI a4 this,fI a5 this,fI a6 this⟩,hu⟩
  ·rename_i r hr
   obtain⟨x,u1,h1,hh⟩:=bind_ok h
   obtain⟨_,u2,h2,hh⟩:=bind_ok hh
   subst h1
   obtain⟨g,b⟩:=Cf hu hs hr
   have b2:=Qn (by decide) _ _ _ _ b.at' h2
   have:=b.le;have:=b2.lt
   exact Rh f (k+1) _ _ _ _ _ b2.at' hs (Ca hd g) (by omega) hh
theorem Rg {N:Nat}:∀f l s u a u',At s u→s.length≤20000→(∀x∈l,QF x)→l.length+u.length≤20000→Jd Hx l+u.length≤20000→U6 N f l u=.ok a u'→(∀x∈a,QF x)∧a.length≤20000∧Jd Hx a≤20000∧At s u'
 |0,_,_,_,_,_,_,_,_,_,_,h=>by simp [U6]at h
 |f+1,l,s,u,a,u',hu,hs,hq,hn,hw,h=>by
  simp only[U6]at h
  split at h
  ·obtain⟨x,u1,h2,h⟩:=bind_ok h
   have b1:=LN _ _ _ _ hu h2
   have:=b1.lt
   have:=Sd _ _ _ _ hu h2
   have q:=(Cd _ _ _ _ hu hs h2).1
   exact Rg f _ _ _ _ _ b1.at' hs (fun y hy=>by
    rcases fW.1 hy with hy|hy
    ·exact hq y hy
    ·simp only[dV]at hy;subst hy;exact q) (by simp only[cC,cQ];omega) (by rw[HG,II];omega) h
  ·cases h;exact⟨hq,by omega,by omega,hu⟩
theorem IU:∀(l:List Stmt) (m:Siz),(Zy m l).nodes=m.nodes+Jd YE l
 |[],m=>rfl
 |x::l,m=>by
  show(Zy (m.bes (Jj x)) l).nodes=_
  rw[IU l,JJ]
  simp only[Siz.bes,YE];omega
theorem TI:∀(l:List Func) (m:Siz),(J8 m l).nodes≤m.nodes+Jd Hx l
 |[],m=>fG _
 |x::l,m=>by
  show(J8 (Zy m x.body) l).nodes≤_
  have:=TI l (Zy m x.body)
  rw[IU]at this
  rw[JJ];simp only[Hx];omega
theorem Rf {N:Nat}:Gd (fun m=>WQ m=true∧LtM m) (X7 N):=fun s u a u' hu hs h=>by
 unfold X7 at h
 obtain⟨_,u1,h1,h⟩:=bind_ok h
 obtain⟨n,u2,h2,h⟩:=bind_ok h
 obtain⟨_,u3,h3,h⟩:=bind_ok h
 obtain⟨d,u4,h4,h⟩:=bind_ok h
 obtain⟨fs,u5,h5,h⟩:=bind_ok h
 obtain⟨ps,u6,h6,h⟩:=bind_ok h
 have b1:=(ZD (by decide) _ _ _ _ hu hs h1).2
 obtain⟨hn,b2⟩:=Yo _ _ _ _ b1 hs h2
 have b3:=(ZD (by decide) _ _ _ _ b2 hs h3).2
 obtain⟨hd,b4⟩:=Rh N 0 _ _ _ _ _ b3 hs ⟨fun _ h=>(by cases h),fun _ h=>(by cases h),fun _ h=>(by cases h),by simp,by simp,by simp⟩ (by have:=b3.le;omega) h4
 obtain⟨hf1,hf2,hf3,b5⟩:=Rg N [] _ _ _ _ b4 hs (fun _ h=>(by cases h)) (by have:=b4.le;simp only[cL];omega) (by have:=b4.le;rw[JC];omega) h5
 obtain⟨hp,b6⟩:=HP (by decide) EV.tk0 Cc _ _ _ _ b5 hs h6
 split at h
 ·cases h
  obtain⟨d1,d2,d3,d4,d5,d6⟩:=hd
  refine⟨⟨?_,?_⟩,b6⟩
  ·have e1:d.clocks.all Qe=true:=cH.2 d1
   have e2:d.vars.all W5=true:=cH.2 d2
   have e3:d.chans.all Ob=true:=cH.2 d3
   have e4:Us fs=true:=cH.2 fun x hx=>(hf1 x hx).1
   have e5:ps.all YG=true:=cH.2 fun x hx=>(hp.1 x hx).1
   simp only[WQ,hn,e1,e2,e3,e4,e5,fX]
  ·refine⟨?_,?_,fun c hc=> ?_,?_,fun v hv=> ?_,?_,fun c hc=> ?_,?_,fun f hf=>(hf1 f hf).2,?_,?_,fun p hp'=>(hp.1 p hp').2⟩
   ·have:=Qz hn;show n.length<_;omega
   ·show d.clocks.length<_;omega
   ·have:=Qz (d1 c hc);omega
   ·show d.vars.length<_;omega
   ·have:=d2 v hv
    simp only[W5,cD]at this
    have:=Qz this.1;omega
   ·show d.chans.length<_;omega
   ·have:=Qz (d3 c hc);omega
   ·show fs.length<_;omega
   ·have:=TI fs ⟨0,0,false⟩
    simp only at this
    show(J8 ⟨0,0,false⟩ fs).nodes<_;omega
   ·have:=hp.2;show ps.length<_;omega
 ·cases h
def Siz.le (m n:Siz):Prop:=m.nodes≤n.nodes∧m.depth≤n.depth∧(m.wide=true→n.wide=true)
theorem Siz.le_refl (m:Siz):m.le m:=⟨fG _,fG _,id⟩
theorem Siz.le.trans {a b c:Siz}(h:a.le b)(k:b.le c):a.le c:=⟨fI h.1 k.1,fI h.2.1 k.2.1,fun x=>k.2.2 (h.2.2 x)⟩
theorem Siz.le.small {m n:Siz}(h:m.le n)(hn:n.small=true):m.small=true:=by
 obtain⟨h1,h2,h3⟩:=h
 simp only[Siz.small,cD,dZ,Bool.not_eq_true']at hn⊢
 refine⟨⟨by omega,by omega⟩,?_⟩
 cases hm:m.wide with
 |false=>rfl
 |true=>rw[h3 hm]at hn;exact absurd hn.2 (by simp)
theorem Et {a b n:Siz}(h:a.le b):(a.bes n).le (b.bes n):=by
 obtain⟨h1,h2,h3⟩:=h
 refine⟨?_,?_,?_⟩
 ·simp only[Siz.bes];omega
 ·simp only[Siz.bes];omega
 ·simp only[Siz.bes,lA];exact fun h=>h.imp h3 id
theorem jB (a n:Siz):a.le (a.bes n):=by
 refine⟨?_,?_,?_⟩
 ·simp only[Siz.bes];omega
 ·simp only[Siz.bes];omega
 ·simp only[Siz.bes,lA];exact .inl
theorem Lf:∀(l:List Stmt) {a b:Siz},a.le b→(Zy a l).le (Zy b l)
 |[],_,_,h=>h
 |x::l,_,_,h=>Lf l (Et h)
theorem R0:∀(l:List Stmt) (a:Siz),a.le (Zy a l)
 |[],a=>Siz.le_refl a
 |x::l,a=>(jB a _).trans (R0 l _)
theorem R1:∀(l:List Func) (a:Siz),a.le (J8 a l)
 |[],a=>Siz.le_refl a
 |x::l,a=>(R0 x.body a).trans (R1 l _)
theorem zero_le (a:Siz):Siz.le ⟨0,0,false⟩ a:=⟨lO _,lO _,fun h=>by cases h⟩
theorem TJ:∀(l:List Func) (a:Siz) {f:Func},f∈l→(J8 ⟨0,0,false⟩ [f]).le (J8 a l)
 |x::l,a,f,h=>by
  rcases dT.1 h with rfl|h
  ·exact(Lf f.body (zero_le a)).trans (R1 l _)
  ·exact TJ l _ h
theorem RC {l:List Func}(h:JZ l=true){f:Func}(hf:f∈l):Z1 f=true:=by
 simp only[JZ,Z1,cD,cH,dZ]at h⊢
 exact⟨⟨fun x hx=>by simp only[dV]at hx;subst hx;exact h.1.1 x hf,(TJ l _ hf).small h.1.2⟩,by simp⟩
theorem Pu {x:Exp}(h:isNone x=true):Zm x=true:=by
 obtain⟨k,n,i,xs⟩:=x
 simp only[isNone,cD]at h
 have:xs=[]:=List.isEmpty_iff.1 h.2
 subst this
 rfl
theorem Ci {m:Model}(h:Ub m=true):IC m=false:=by
 simp only[Ub,cD]at h
 have h1:m.funcs.any (fun f=> !Z1 f)=false:=by
  rw[fM]
  intro f hf
  rw[RC h.1.1.2 hf];simp
 have h2:m.procs.any Vk=false:=by
  rw[fM]
  intro p hp
  have hp:=cH.1 h.2 p hp
  simp only[Xu,cD]at hp
  simp only[Vk,cP,fM]
  intro x hx
  have hx:=cH.1 hp.2 x hx
  simp only[Uj,cD,lA]at hx
  have e1:Zm x.cond=true:=hx.1.1.1.2.elim Pu id
  simp only[JQ,J5,e1,cM,cZ,fM,cP]
  intro a ha
  simp only[YW,J5,cH.1 hx.1.2 a ha,cM]
 rw[IC,h1,h2];rfl
theorem Eo {x:Edge}(h:JQ x=false):Kg x=x:=by
 simp only[JQ,Bool.or_eq_false_iff,fM]at h
 have e1:XV x.cond=x.cond:=by
  have:Zm x.cond=true:=by simpa[J5]using h.1
  simp [XV,this]
 have e2:x.sets.map IB=x.sets:=by
  conv=>rhs;rw[←List.map_id x.sets]
  refine List.map_congr_left fun a ha=> ?_
  have:Zm a.val=true:=by simpa[YW,J5]using h.2 a ha
  simp [IB,XV,this]
 simp only[Kg,e1,e2]
theorem Cr {p:Proc}(h:Vk p=false):Ks p=p:=by
 simp only[Vk,fM]at h
 have e2:p.edges.map Kg=p.edges:=by
  conv=>rhs;rw[←List.map_id p.edges]
  exact List.map_congr_left fun a ha=>Eo (by simpa using h a ha)
 simp only[Ks,e2]
theorem E3 {m:Model}(h:IC m=false):H0 m=m:=by
 simp only[IC,Bool.or_eq_false_iff,fM]at h
 have:m.funcs.filter Z1=m.funcs:=List.filter_eq_self.2 fun f hf=>by simpa using h.1 f hf
 simp only[H0,this]
theorem Fs {m:Model}(h:IC m=false):Qy 4 (fun p=>(Ks p).cells) m.procs=Qy 4 Proc.cells m.procs:=by
 simp only[IC,Bool.or_eq_false_iff,fM]at h
 simp only[Qy]
 congr 1
 have:∀l:List Proc,(∀p∈l,Vk p=false)→l.flatMap (fun p=>(Ks p).cells)=l.flatMap Proc.cells:=by
  intro l
  induction l with
  |nil=>intro _;rfl
  |cons a l ih=>intro h;rw[dD,dD,ih fun p hp=>h p (dI _ hp),Cr (h a (dO ..))]
 exact this _ fun p hp=>by simpa using h.2 p hp
def U5 (N:Nat)(s:Bs):Model×Int×Int:=
 if 20000<s.length then(Wr,0,3)else match X7 N (skip s)with
  | .ok m _=>if Ub m then(m,0,0)else(Wr,0,3)
  | .bad u=>(Wr,(s.length - u.length:Nat),80)
def XZ (r:Model×Int×Int):AV:=.tuple [.agg r.1.cells,i64 r.2.1,i64 r.2.2]
theorem WE {P:Program}{G:Nat→Option (List AV)}{pn:Option AV}{A:Q3}{K:Option AV→Q3→Prop}:XP P G [] pn A K=K pn A:=propext Iff.rfl
theorem Z7.trans {A B C:Q3}(h:Z7 A B)(k:Z7 B C):Z7 A C:=fun x=>by
 rcases k x with k1|⟨k1,k2⟩
 ·rw[k1];exact h x
 ·exact .inr ⟨h.gone k1,fun es he j l e hj=>k2 es he j l e (h.keep hj)⟩
section
variable (G:Nat→Option (List AV))
theorem n22 {A:Q3}{a b e:Nat}{s u:Bs}{va:List AV}{vb ve:AV}(ha:A a=some (.cells va))(hva:va.length=6)(hb:A b=some (.cells [vb]))(he:A e=some (.cells [ve]))(hab:a≠b)(hae:a≠e)(hbe:b≠e):
 K8 Tryz.prog G 22 [.ptr a 0,.ptr b 0,.ptr e 0] (some (Ug 59 s u)) A (fun pn A'=>pn=none∧A'=((A.upd a (some (.cells [.str [],.raw (.slice none 0 0),.raw (.slice none 0 0),.raw (.slice none 0 0),.raw (.slice none 0 0),.raw (.slice none 0 0)]))).upd b (some (.cells [i64 (s.length - u.length:Nat)]))).upd e (some (.cells [i64 80]))):=by
 obtain⟨v1,v2,v3,v4,v5,v6,rfl⟩:∃v1 v2 v3 v4 v5 v6,va=[v1,v2,v3,v4,v5,v6]:=by
  match va,hva with
  |[v1,v2,v3,v4,v5,v6],_=>exact⟨_,_,_,_,_,_,rfl⟩
 refine IR l22 (fE rfl) ?_
 simp only[L22,Xx,M3,Ug,Q1,seval]
 intro t ht
 have hta:=Q6 ha ht
 have htb:=Q6 hb ht
 have hte:=Q6 he ht
 simp only[Xx,Q5 hta,Q5 htb,Q5 hte,Q5 hta.symm,Q5 htb.symm,Q5 hab.symm,Q5 hae.symm,Q5 hbe.symm,ha,hb,he,QW,Q1,seval]
 refine⟨_,XC fun k=> ?_,rfl⟩
 by_cases h1:k=e
 ·subst h1;exact .inl (by rw[Q0,Q0])
 by_cases h2:k=b
 ·subst h2;exact .inl (by rw[Q5 h1,Q5 h1,Q0,Q0])
 by_cases h4:k=a
 ·subst h4;exact .inl (by rw[Q5 h1,Q5 h2,Q5 h1,Q5 h2,Q0,Q0])
 by_cases h3:k=t
 ·subst h3;exact .inr ⟨by simp only[Q3.upd,h1,h2,h4,if_false];exact ht,by simp [Q3.upd,h1,h2,h4]⟩
 ·exact .inl (by simp only[Q3.upd,h1,h2,h3,h4,if_false])
theorem GI {A:Q3}{a b e:Nat}:K8 Tryz.prog G 22 [.ptr a 0,.ptr b 0,.ptr e 0] none A (fun pn A'=>pn=none∧A'=A):=by
 refine IR l22 (fE rfl) ?_
 simp only[L22,Xx,M3,Q1,seval]
 exact⟨_,U2.refl _,rfl⟩
theorem Kt:Wk (.agg [.str [],.raw (.slice none 0 0),.raw (.slice none 0 0),.raw (.slice none 0 0),.raw (.slice none 0 0),.raw (.slice none 0 0)]) (.agg Wr.cells):=
 YA (.cons (Wk.refl _) (.cons Jm (.cons Jm (.cons Jm (.cons Jm (.cons Jm .nil))))))
theorem n9 (hG:Gl G){N:Nat}{A:Q3}{s:Bs}(hN:10*s.length+11≤N):Qu Tryz.prog G 9 [.str s] A (XZ (U5 N s)) A:=by
 refine Q4 l9 (fE rfl) ?_
 simp only[C9,Q1,seval]
 intro a ha b hb e he
 obtain⟨hba,hb⟩:=Q9 hb
 obtain⟨heb,he⟩:=Q9 he
 obtain⟨hea,he⟩:=Q9 he
 have nab:=hba.symm;have nae:=hea.symm;have nbe:=heb.symm
 refine⟨fun hl=> ?_,fun hl=> ?_⟩
 ·have hl':20000<s.length:=by omega
  simp only[Q5 hba,Q5 hea,Q5 heb,Q5 nab,Q5 nae,Q5 nbe,Xx,WE,Q1,seval]
  rw[U5,fC hl']
  exact Uh (Uy Kt) (by repeat(first|exact Z7.refl _|refine Z7.set ?_ (by assumption) (by simp [rk,JN,rd,Zz])))
 ·have hl':¬20000<s.length:=by omega
  rw[U5,fD hl']
  intro r0 hr0 m hm
  have hO0:Z7 A (((A.upd a (some (.cells [.str [],.raw (.slice none 0 0),.raw (.slice none 0 0),.raw (.slice none 0 0),.raw (.slice none 0 0),.raw (.slice none 0 0)]))).upd b (some (.cells [i64 0]))).upd e (some (.cells [i64 0]))):=(by repeat(first|exact Z7.refl _|refine Z7.set ?_ (by assumption) (by simp [rk,JN,rd,Zz])))
  have e1:(((A.upd a (some (.cells [.str [],.raw (.slice none 0 0),.raw (.slice none 0 0),.raw (.slice none 0 0),.raw (.slice none 0 0),.raw (.slice none 0 0)]))).upd b (some (.cells [i64 0]))).upd e (some (.cells [i64 0]))) a=some (.cells [.str [],.raw (.slice none 0 0),.raw (.slice none 0 0),.raw (.slice none 0 0),.raw (.slice none 0 0),.raw (.slice none 0 0)]):=by
   rw[Q5 nae,Q5 nab,Q0]
  have e2:(((A.upd a (some (.cells [.str [],.raw (.slice none 0 0),.raw (.slice none 0 0),.raw (.slice none 0 0),.raw (.slice none 0 0),.raw (.slice none 0 0)]))).upd b (some (.cells [i64 0]))).upd e (some (.cells [i64 0]))) b=some (.cells [i64 0]):=by
   rw[Q5 nbe,Q0]
  have e3:(((A.upd a (some (.cells [.str [],.raw (.slice none 0 0),.raw (.slice none 0 0),.raw (.slice none 0 0),.raw (.slice none 0 0),.raw (.slice none 0 0)]))).upd b (some (.cells [i64 0]))).upd e (some (.cells [i64 0]))) e=some (.cells [i64 0]):=Q0 ..
  generalize(((A.upd a (some (.cells [.str [],.raw (.slice none 0 0),.raw (.slice none 0 0),.raw (.slice none 0 0),.raw (.slice none 0 0),.raw (.slice none 0 0)]))).upd b (some (.cells [i64 0]))).upd e (some (.cells [i64 0])))=A0 at*
  obtain⟨hmr,hm0⟩:=Q9 hm
  refine Q2 (f23 G (a:=0) (b:=0) (l:=false) (s:=s) ((Q5 hmr.symm).trans (Q0 ..)) (by omega) (by omega) _ rfl) ?_
  have erd:Zz s (0+QG false (s.drop 0)) (0+QG false (s.drop 0)+Z4 (s.drop (0+QG false (s.drop 0)))) false=rd s (skip s) false:=by
   have:=YD s false
   simp only[rd,skip,List.drop_zero,lN,dW]
   congr 1 <;> congr 1 <;> omega
  rw[erd]
  have hu:At s (skip s):=At.skip List.suffix_rfl
  have h:Mk A0 m r0 s Wr (skip s) false (((A0.upd r0 (some (Zz s 0 0 false))).upd m (some (.cells [.ptr r0 0,.str [],.raw (.slice none 0 0),.raw (.slice none 0 0),.raw (.slice none 0 0),.raw (.slice none 0 0),.raw (.slice none 0 0)]))).upd r0 (some (rd s (skip s) false))):=by
   refine⟨(by repeat(first|exact Z7.refl _|refine Z7.set ?_ (by assumption) (by simp [rk,JN,rd,Zz]))),hr0,hm0,Q0 ..,_,_,_,_,_,none,none,none,none,none,?_,⟨.inl ⟨rfl,rfl,rfl⟩,.inl ⟨rfl,rfl,rfl⟩,.inl ⟨rfl,rfl,rfl⟩,.inl ⟨rfl,rfl,rfl⟩,.inl ⟨rfl,rfl,rfl⟩⟩,⟨fun i t h=> ?_,fun i j t h=> ?_⟩⟩
   ·rw[Q5 hmr,Q0];rfl
   ·match i,h with
    |0,h|1,h|2,h|3,h|4,h=>cases h
   ·match i,h with
    |0,h|1,h|2,h|3,h|4,h=>cases h
  generalize(((A0.upd r0 (some (Zz s 0 0 false))).upd m (some (.cells [.ptr r0 0,.str [],.raw (.slice none 0 0),.raw (.slice none 0 0),.raw (.slice none 0 0),.raw (.slice none 0 0),.raw (.slice none 0 0)]))).upd r0 (some (rd s (skip s) false)))=B at*
  have hle:=hu.le
  simp only[Q1,seval]
  refine Qk (n24 G hG (N:=N) h hu (by omega) (by omega)) ?_
  intro o B' ho
  cases hR:X7 N (skip s)with
  |bad u=>
   rw[hR]at ho
   obtain⟨rfl,hO⟩:=ho
   simp only[Xx,Q1,seval]
   refine K8.mono (n22 G (hO.keep e1) rfl (hO.keep e2) (hO.keep e3) nab nae nbe) ?_
   rintro pn A' ⟨rfl,rfl⟩
   have hO':=((((hO0.trans hO).set ha (by simp)).set hb (by simp)).set he (by simp):Z7 A (((B'.upd a (some (.cells [.str [],.raw (.slice none 0 0),.raw (.slice none 0 0),.raw (.slice none 0 0),.raw (.slice none 0 0),.raw (.slice none 0 0)]))).upd b (some (.cells [i64 (s.length - u.length:Nat)]))).upd e (some (.cells [i64 80]))))
   simp only[Q5 hba,Q5 hea,Q5 heb,Q5 nab,Q5 nae,Q5 nbe,Xx,WE,Q1,seval]
   exact Uh (Uy Kt) hO'
  |ok M u=>
   rw[hR]at ho
   obtain⟨rfl,h⟩:=ho
   simp only[cZ]at h
   obtain⟨hwf,hlt⟩:=(Rf _ _ _ _ hu (by omega) hR).1
   have hO:=hO0.trans h.ovr
   have e1:=h.ovr.keep e1
   have e2:=h.ovr.keep e2
   have e3:=h.ovr.keep e3
   obtain⟨v1,v2,v3,v4,v5,t1,t2,t3,t4,t5,h1,h2,h3⟩:=h.hm
   have hr1:=h.hr
   rw[Ke]at hr1
   cases hbig:IC M with
   |true=>
    have hfew:Ub M=false:=by
     cases hf:Ub M with
     |false=>rfl
     |true=>rw[Ci hf]at hbig;cases hbig
    rw[hbig]at hr1
    simp only[h1,hr1,e1,e2,e3,Q5 hba,Q5 hea,Q5 heb,Q5 nab,Q5 nae,Q5 nbe,Xx,Q1,seval]
    refine K8.mono (GI G) ?_
    rintro pn A' ⟨rfl,rfl⟩
    simp only[Q5 hba,Q5 hea,Q5 heb,Q5 nab,Q5 nae,Q5 nbe,Xx,WE,hfew,Q1,seval]
    exact Uh (Uy Kt) (((hO.set ha (by simp)).set hb (by simp)).set he (by simp))
   |false=>
    rw[hbig]at hr1
    simp only[h1,hr1,e1,e2,e3,Q5 hba,Q5 hea,Q5 heb,Q5 nab,Q5 nae,Q5 nbe,Xx,Q1,seval]
    have hk:=E3 hbig
    rw[hk]at h2
    obtain⟨g1,g2,g3,g4,g5⟩:=h2
    have hp:(.slice 4 M.procs.length (M.procs.flatMap fun p=>(Ks p).cells) none:AV)=Qy 4 Proc.cells M.procs:=Fs hbig
    have g5':=g5.wk
    rw[Qy,hp]at g5'
    have hwk:Xy [.str (H0 M).name,v1,v2,v3,v4,v5] M.cells:=by
     rw[hk]
     exact .cons (Wk.refl _) (.cons g1.wk (.cons g2.wk (.cons g3.wk (.cons g4.wk (.cons g5' .nil)))))
    have h16:Qu Tryz.prog G 16 [.agg [.str (H0 M).name,v1,v2,v3,v4,v5]] B' (i64 (Vo M)) B':=Qt.wk (.cons (YA hwk) .nil) (N0 G M hlt)
    refine Q2 h16 ?_
    have hf:Vo M=if Ub M then 0 else 3:=by rw[Vo,fC hwf];rfl
    rw[hf]
    cases hfew:Ub M with
    |false=>
     simp only[h1,hr1,e1,e2,e3,Q5 hba,Q5 hea,Q5 heb,Q5 nab,Q5 nae,Q5 nbe,Xx,Q1,seval]
     refine K8.mono (GI G) ?_
     rintro pn A' ⟨rfl,rfl⟩
     simp only[Q5 hba,Q5 hea,Q5 heb,Q5 nab,Q5 nae,Q5 nbe,Xx,WE,Q1,seval]
     exact Uh (Uy Kt) (((hO.set ha (by simp)).set hb (by simp)).set he (by simp))
    |true=>
     simp only[h1,hr1,e1,e2,e3,g1.one,g2.one,g3.one,g4.one,g5.one,Q5 hba,Q5 hea,Q5 heb,Q5 nab,Q5 nae,Q5 nbe,Xx,Q1,seval]
     refine K8.mono (GI G) ?_
     rintro pn A' ⟨rfl,rfl⟩
     simp only[Q5 hba,Q5 hea,Q5 heb,Q5 nab,Q5 nae,Q5 nbe,Xx,WE,Q1,seval]
     exact Uh (Uy (YA hwk)) (((hO.set ha (by simp)).set hb (by simp)).set he (by simp))
end
def Zd (k:Int):Nat:=if k=18 then 0 else if k=3∨k=4 then 6 else if k=1∨k=2∨k=19 then 7 else(J4 k).2
def Zr (l:Nat)(k:Int)(t:Bs):Bs:=if Zd k<l then 40::(t++[41])else t
def V0 (k:Int)(n:Bs)(i:Int)(xs:List Exp)(ts:List Bs):Bs:=
 if k=1 then Lib.itoa i else if k=2 then n
 else if k=3 then 45::Zr (if(xs.getD 0 JO).kind=1∧0≤(xs.getD 0 JO).int then 8 else 6) (xs.getD 0 JO).kind (ts.getD 0 [])
 else if k=4 then 33::Zr 6 (xs.getD 0 JO).kind (ts.getD 0 [])
 else if k=18 then Zr 1 (xs.getD 0 JO).kind (ts.getD 0 [])++[32,63,32]++ts.getD 1 []++[32,58,32]++ts.getD 2 []
 else if k=19 then n++[40]++Lib.join ts [44,32]++[41]
 else Zr (if Zd k=3 then 4 else Zd k) (xs.getD 0 JO).kind (ts.getD 0 [])++[32]++(J4 k).1++[32]++Zr (Zd k+1) (xs.getD 1 JO).kind (ts.getD 1 [])
mutual
def Qh:Exp→Bs
 | .mk k n i xs=>V0 k n i xs (Tl xs)
def Tl:List Exp→List Bs
 |[]=>[]
 |x::xs=>Qh x::Tl xs
end
theorem WA:∀xs:List Exp,Tl xs=xs.map Qh
 |[]=>rfl
 |x::xs=>by simp only[Tl,cJ,WA xs]
def J3 (d:Nat):Bs:=List.replicate d 9
def Yt (k:Int)(n:Bs):Bs:=
 if k=1 then[118,97,114,32]++n++[32,61,32]else if k=2 then n++[32,61,32]else if k=5 then[114,101,116,117,114,110,32]else if k=3 then[105,102,32,40]else if k=4 then[119,104,105,108,101,32,40]else[]
mutual
def Vq:Nat→Stmt→Bs
 |d,.mk k n v b e=>J3 d++(Yt k n++(Qh v++(if k=3∨k=4 then[41,32,123,10]++(Zu (d+1) b++((if e.isEmpty then[]else J3 d++([125,32,101,108,115,101,32,123,10]++Zu (d+1) e))++(J3 d++[125,10])))else[59,10])))
def Zu:Nat→List Stmt→Bs
 |_,[]=>[]
 |d,x::xs=>Vq d x++Zu d xs
end
theorem OE:∀(d:Nat) (xs:List Stmt),Zu d xs=xs.flatMap (Vq d)
 |_,[]=>rfl
 |d,x::xs=>by simp only[Zu,dD,OE d xs]
def O4 (f:Func):Bs:=VL++[32]++f.name++[40]++Lib.join f.params [44,32]++[41,32,123,10]++Zu 1 f.body++[125,10]
def VD (l:List Func):Bs:=l.flatMap O4
def XW (t:Test):Bs:=t.clock++[32]++((if t.lower then[62]else[60])++(if t.strict then[]else[61]))++[32]++Lib.itoa t.c
def Yq (l:List Test):Bs:=Lib.join (l.map XW) [32,38,38,32]
def VR (a:Assign):Bs:=a.name++[32,61,32]++Qh a.val
def Uc (c:Clear):Bs:=c.clock++[32,61,32]++Lib.itoa c.tv
def QO (is:Bool)(w t:Bs):Bs:=if is then[32]++w++[32]++t else[]
def Vi (x:Edge):Bs:=
 [9]++JF++[32]++x.src++[32,45,62,32]++x.dst++QO (!x.tests.isEmpty) Yv (Yq x.tests)++QO (!(isNone x.cond)) JM (Qh x.cond)++QO (!x.chan.isEmpty) Y8 (x.chan++(if x.send then[33]else[63]))++
 QO (!x.sets.isEmpty) VA (Lib.join (x.sets.map VR) [44,32])++QO (!x.clears.isEmpty) Jb (Lib.join (x.clears.map Uc) [44,32])++QO (x.cost !=0) Jz (Lib.itoa x.cost)++QO (x.kind !=0) Ju (Lib.itoa x.kind)++[59,10]
def X2 (k:Int):Bs:=if k=1 then[32]++Zq else if k=2 then[32]++YT else[]
def XB (l:Loc):Bs:=[9]++JD++[32]++l.name++X2 l.kind++QO (!l.inv.isEmpty) Ua (Yq l.inv)++QO (l.rate !=0) YF (Lib.itoa l.rate)++[59,10]
def Ue (p:Proc):Bs:=ZQ++[32]++p.name++[32]++V1++[32]++p.init++[32,123,10]++p.locs.flatMap XB++p.edges.flatMap Vi++[125,10]
def UH (v:Var):Bs:=VE++[32]++v.name++[32]++M2++[32]++Lib.itoa v.low++[46,46]++Lib.itoa v.high++[32,61,32]++Lib.itoa v.init++[59,10]
def Vb (c:Chan):Bs:=(if c.broadcast then Jr++[32]else[])++(if c.urgent then Zq++[32]else[])++J7++[32]++c.name++[59,10]
def XT (l:List Bs):Bs:=if l.isEmpty then[]else Kw++[32]++Lib.join l [44,32]++[59,10]
def X0 (m:Model):Bs:=UI++[32]++m.name++[59,10]++XT m.clocks++m.vars.flatMap UH++m.chans.flatMap Vb++VD m.funcs++m.procs.flatMap Ue
end Go.Proofs.YtcbjbgaefighcaaGreatDoor
