/- Part 26 of the proof. -/
import Derived.Test.YtcbjbgaefighcaaGreatDoorT0
import Derived.Test.YtcbjbgaefighcaaGreatDoorT16
import Derived.Test.YtcbjbgaefighcaaGreatDoorT23
import Derived.Test.YtcbjbgaefighcaaGreatDoorT25
import Derived.Lib.Join
import Derived.Lib.ItoaNum
set_option linter.all false
namespace Go.Proofs.YtcbjbgaefighcaaGreatDoor
open Go Go.Ax Go.Proofs
def Gd {α:Type}(Q:α→Prop)(p:Bs→Res α):Prop:=∀s u a u',At s u→s.length≤20000→p u=.ok a u'→Q a∧At s u'
def GL {α:Type}(Q:α→Prop)(l:List α):Prop:=(∀x∈l,Q x)∧l.length≤20000
theorem Qy {n:Bs}(h:Qf n=true):n.length≤16:=by
 unfold Qf at h
 split at h
 ·cases h
 ·simp only[cD,dZ]at h;exact h.1.1.1
section
variable {α β:Type}{Q:α→Prop}{R:β→Prop}
theorem ZC {a:α}(h:Q a):Gd Q fun u=>.ok a u:=fun s u a' u' hu _ e=>by cases e;exact⟨h,hu⟩
theorem Qj {p:Bs→Res α}{k:α→Bs→Res β}(hp:Gd Q p)(hk:∀a,Q a→Gd R (k a)):Gd R fun u=>(p u).bind k:=fun s u b u' hu hs e=>by
 obtain⟨a,u1,h1,h2⟩:=bind_ok e
 obtain⟨q,hu1⟩:=hp _ _ _ _ hu hs h1
 exact hk a q _ _ _ _ hu1 hs h2
theorem gd_true {p:Bs→Res α}(h:Wl p):Gd (fun _=>True) p:=fun s u a u' hu _ e=>⟨trivial,(h _ _ _ _ hu e).at'⟩
theorem Zx {w:Bs}(hw:w≠[]):Gd (fun _=>True) (Qk w):=gd_true (Qm hw).tk0
theorem Yi:Gd (fun n=>Qf n=true) Z8:=fun s u a u' hu _ e=>by
 refine⟨?_,(QQ _ _ _ _ hu e).at'⟩
 unfold Z8 at e
 split at e
 ·cases e;assumption
 ·cases e
theorem Le {b:Bool}:Gd (fun n=>ZQ n=true) (JT b):=fun s u a u' hu _ e=>by
 refine⟨?_,(Kv _ _ _ _ hu e).at'⟩
 unfold JT at e
 split at e
 ·split at e
  ·cases e
  ·rename_i h
   cases e
   simp only[ZQ,dZ]
   split <;> omega
 ·cases e
theorem JZ {p:Bs→Res α}(h:Gd Q p):Gd Q fun u=>p (adv u):=fun s u a u' hu hs e=>h _ _ _ _ hu.adv hs e
theorem JN {c:Bs→Prop}[∀u,Decidable (c u)]{p q:Bs→Res α}(hp:Gd Q p)(hq:Gd Q q):Gd Q fun u=>if c u then p u else q u:=fun s u a u' hu hs e=>by
 simp only at e
 split at e
 ·exact hp _ _ _ _ hu hs e
 ·exact hq _ _ _ _ hu hs e
theorem UG:Gd (fun n=>ZQ n=true) JE:=JN (JZ Le) Le
theorem Wc {w:Bs}{d:α}{p:Bs→Res α}(hd:Q d)(hp:Gd Q p):Gd Q (Jd w d p):=JN (JZ hp) (ZC hd)
theorem qX:Gd Q fun u=>(.bad u:Res α):=fun s u a u' hu hs e=>by cases e
theorem Nb {sep:Bs}{one:Bs→Res α}(hs:sep≠[])(ht:Tk one)(h1:Gd Q one):∀f l s u a u',At s u→s.length≤20000→(∀x∈l,Q x)→l.length+u.length≤20000→ZZ sep one f l u=.ok a u'→GL Q a∧At s u'
 |0,_,_,_,_,_,_,_,_,_,h=>by simp [ZZ]at h
 |f+1,l,s,u,a,u',hu,hl,hq,hn,h=>by
  simp only[ZZ]at h
  split at h
  ·rename_i hc
   have b0:=Beh.adv hu hc hs
   obtain⟨x,u1,h2,h⟩:=bind_ok h
   have b1:=ht _ _ _ _ b0.at' h2
   have:=b0.lt;have:=b1.lt
   have q:=(h1 _ _ _ _ b0.at' hl h2).1
   exact Nb hs ht h1 f _ _ _ _ _ b1.at' hl (fun y hy=>by
    rcases fW.1 hy with hy|hy
    ·exact hq y hy
    ·simp only[dV]at hy;subst hy;exact q) (by simp only[cC,cQ];omega) h
  ·cases h;exact⟨⟨hq,by omega⟩,hu⟩
theorem Km {sep:Bs}{one:Bs→Res α}(hs:sep≠[])(ht:Tk one)(h1:Gd Q one){f:Nat}:Gd (GL Q) (ZO sep one f):=fun s u a u' hu hl h=>by
 obtain⟨x,u1,h2,h⟩:=bind_ok h
 have b1:=ht _ _ _ _ hu h2
 have:=b1.lt;have:=hu.le
 have q:=(h1 _ _ _ _ hu hl h2).1
 exact Nb hs ht h1 f _ _ _ _ _ b1.at' hl (fun y hy=>by simp only[dV]at hy;subst hy;exact q) (by simp only[cQ];omega) h
theorem X1:GL Q ([]:List α):=⟨fun _ h=>(by cases h),by simp⟩
theorem Nc {one:Bs→Res α}(ht:Tk one)(h1:Gd Q one){f:Nat}:Gd (GL Q) (U7 one f):=
 JN (JZ (ZC X1)) (Qj (Km (by decide) ht h1) fun l hl=>Qj (Zx (by decide)) fun _ _=>ZC hl)
theorem TQ {one:Bs→Res α}(ht:Tk one)(h1:Gd Q one):∀f l s u a u',At s u→s.length≤20000→(∀x∈l,Q x)→l.length+u.length≤20000→Zy one f l u=.ok a u'→GL Q a∧At s u'
 |0,_,_,_,_,_,_,_,_,_,h=>by simp [Zy]at h
 |f+1,l,s,u,a,u',hu,hl,hq,hn,h=>by
  simp only[Zy]at h
  split at h
  ·cases h;exact⟨⟨hq,by omega⟩,hu.adv⟩
  ·obtain⟨x,u1,h2,h⟩:=bind_ok h
   have b1:=ht _ _ _ _ hu h2
   have:=b1.lt
   have q:=(h1 _ _ _ _ hu hl h2).1
   exact TQ ht h1 f _ _ _ _ _ b1.at' hl (fun y hy=>by
    rcases fW.1 hy with hy|hy
    ·exact hq y hy
    ·simp only[dV]at hy;subst hy;exact q) (by simp only[cC,cQ];omega) h
theorem Sr {w:Bs}(hw:w≠[]){one:Bs→Res α}(ht:Wl one)(h1:Gd Q one):∀f l s u a u',At s u→s.length≤20000→(∀x∈l,Q x)→l.length+u.length≤20000→JI w one f l u=.ok a u'→GL Q a∧At s u'
 |0,_,_,_,_,_,_,_,_,_,h=>by simp [JI]at h
 |f+1,l,s,u,a,u',hu,hl,hq,hn,h=>by
  simp only[JI]at h
  split at h
  ·rename_i hc
   have b0:=Beh.adv hu hc hw
   obtain⟨x,u1,h2,h⟩:=bind_ok h
   have b1:=ht _ _ _ _ b0.at' h2
   have:=b0.lt;have:=b1.le
   have q:=(h1 _ _ _ _ b0.at' hl h2).1
   exact Sr hw ht h1 f _ _ _ _ _ b1.at' hl (fun y hy=>by
    rcases fW.1 hy with hy|hy
    ·exact hq y hy
    ·simp only[dV]at hy;subst hy;exact q) (by simp only[cC,cQ];omega) h
  ·cases h;exact⟨⟨hq,by omega⟩,hu⟩
theorem HQ {w:Bs}(hw:w≠[]){one:Bs→Res α}(ht:Wl one)(h1:Gd Q one){f:Nat}:Gd (GL Q) (JI w one f []):=fun s u a u' hu hs h=>
 Sr hw ht h1 f [] s u a u' hu hs (fun _ h=>(by cases h)) (by have:=hu.le;simp only[cL];omega) h
theorem Ga {one:Bs→Res α}(ht:Tk one)(h1:Gd Q one){f:Nat}:Gd (GL Q) (Zy one f []):=fun s u a u' hu hs h=>
 TQ ht h1 f [] s u a u' hu hs (fun _ h=>(by cases h)) (by have:=hu.le;simp only[cL];omega) h
end
def QE (x:Exp):Prop:=JA x=true∧Xl x
theorem EM {l:List Exp}(h:∀x∈l,QE x):IA l=true∧Hx l:=by
 refine⟨?_,?_⟩
 ·rw[Kz,cH];exact fun x hx=>(h x hx).1
 ·induction l with
  |nil=>trivial
  |cons a l ih=>exact⟨(h a (dO ..)).2,ih fun x hx=>h x (dI _ hx)⟩
theorem II {k:Int}{n:Bs}{i:Int}{l:List Exp}(h:Vf k n i l.length=true)(hn:n.length<2^60)(hl:GL QE l):QE (.mk k n i l):=by
 obtain⟨h1,h2⟩:=EM hl.1
 exact⟨by simp only[JA,h,h1,fX],hn,by have:=hl.2;omega,h2⟩
theorem NU {n:Nat}{t:Bs}{k:Int}(h:JB n t=some k):5≤k∧k≤17:=by
 have hm:(t,k)∈ZB n:=by
  unfold JB at h
  have:∀l:List (Bs×Int),l.lookup t=some k→(t,k)∈l:=by
   intro l
   induction l with
   |nil=>intro h;cases h
   |cons p l ih=>
    intro h
    obtain⟨a,b⟩:=p
    rw[List.lookup_cons]at h
    split at h
    ·rename_i e
     simp only[beq_iff_eq]at e
     simp only[cA]at h
     subst e h;exact dO ..
    ·exact dI _ (ih h)
  exact this _ h
 have hn:n=1∨n=2∨n=3∨n=4∨n=5:=by
  match n,hm with
  |1,_=>simp
  |2,_=>simp
  |3,_=>simp
  |4,_=>simp
  |5,_=>simp
 rcases hn with rfl|rfl|rfl|rfl|rfl <;> simp only[ZB,dT,dL,or_false,cW]at hm <;> omega
theorem Pn {k:Int}(h:5≤k∧k≤17):Vf k [] 0 2=true:=by
 have e:Zu k=some (some 2):=by
  have h1:¬(k=1∨k=2):=by omega
  have h2:¬(k=3∨k=4):=by omega
  simp only[Zu,h1,h2,h,and_self,if_true,if_false]
 have e2:¬(k=2∨k=19):=by omega
 simp [Vf,e,e2,ZQ]
theorem N9 {α:Type}{Q:α→Prop}{a:α}(h:Q a):GL Q [a]:=⟨fun x hx=>by simp only[dV]at hx;subst hx;exact h,by simp⟩
theorem qU {α:Type}{Q:α→Prop}{a b:α}(h:Q a)(h2:Q b):GL Q [a,b]:=⟨fun x hx=>by simp only[dT,dL,or_false]at hx;rcases hx with rfl|rfl <;> assumption,by simp⟩
theorem FL {α:Type}{Q:α→Prop}{a b c:α}(h:Q a)(h2:Q b)(h3:Q c):GL Q [a,b,c]:=⟨fun x hx=>by simp only[dT,dL,or_false]at hx;rcases hx with rfl|rfl|rfl <;> assumption,by simp⟩
theorem N6 {n:Int}(h:ZQ n=true):QE (.mk 1 [] n []):=II (by simp [Vf,Zu,h]) (by simp) X1
structure GdE (f:Nat):Prop where
 e:Gd QE (QZ f)
 r:∀n,Gd QE (Jx f n)
 l:∀n x,QE x→Gd QE (ZN f n x)
 u:Gd QE (Zq f)
 p:Gd QE (JU f)
theorem gdE:∀f,GdE f
 |0=>⟨fun _ _ _ _ _ _ h=>by simp [QZ]at h,fun _ _ _ _ _ _ _ h=>by simp [Jx]at h,fun _ _ _ _ _ _ _ _ _ h=>by simp [ZN]at h,fun _ _ _ _ _ _ h=>by simp [Zq]at h,fun _ _ _ _ _ _ h=>by simp [JU]at h⟩
 |f+1=>by
  have ih:=gdE f
  have tk:=Hl f
  refine⟨?_,?_,?_,?_,?_⟩
  ·have:Gd QE fun u=>(Jx f 1 u).bind fun x u1=>if cur u1=[63]then(QZ f (adv u1)).bind fun a u2=>(Qk [58] u2).bind fun _ u3=>(QZ f u3).bind fun b u4=>.ok (.mk 18 [] 0 [x,a,b]) u4 else .ok x u1:=
    Qj (ih.r 1) fun x hx=>JN (JZ (Qj ih.e fun a ha=>Qj (Zx (by decide)) fun _ _=>Qj ih.e fun b hb=>ZC (II (by rfl) (by simp) (FL hx ha hb)))) (ZC hx)
   intro s u a u' hu hs h
   simp only[QZ]at h
   exact this _ _ _ _ hu hs h
  ·intro n s u a u' hu hs h
   simp only[Jx]at h
   split at h
   ·exact ih.u _ _ _ _ hu hs h
   ·exact(Qj (ih.r (n+1)) fun x hx=>ih.l n x hx) _ _ _ _ hu hs h
  ·intro n x hx s u a u' hu hs h
   simp only[ZN]at h
   split at h
   ·cases h;exact⟨hx,hu⟩
   ·rename_i k hk
    obtain⟨y,u1,h1,h⟩:=bind_ok h
    obtain⟨hy,hu1⟩:=ih.r _ _ _ _ _ hu.adv hs h1
    have hq:QE (.mk k [] 0 [x,y]):=II (Pn (NU hk)) (by simp) (qU hx hy)
    split at h
    ·cases h;exact⟨hq,hu1⟩
    ·exact ih.l _ _ hq _ _ _ _ hu1 hs h
  ·intro s u a u' hu hs h
   simp only[Zq]at h
   exact(JN (c:=fun u=>cur u=[33]) (JZ (Qj ih.u fun x hx=>ZC (II (by rfl) (by simp) (N9 hx)))) (JN (c:=fun u=>cur u=YC) (JN (c:=fun u=>JK (adv u)=true) (JZ (Qj Le fun n hn=>ZC (N6 hn)))
    (JZ (Qj ih.u fun x hx=>ZC (II (by rfl) (by simp) (N9 hx))))) ih.p)) _ _ _ _ hu hs h
  ·intro s u a u' hu hs h
   simp only[JU]at h
   exact(JN (c:=fun u=>JK u=true) (Qj Le fun n hn=>ZC (N6 hn)) (JN (c:=fun u=>cur u=[40]) (JZ (Qj ih.e fun x hx=>Qj (Zx (by decide)) fun _ _=>ZC hx))
    (Qj Yi fun n hn=>JN (c:=fun u=>cur u=[40]) (JZ (Qj (Nc tk.e ih.e) fun l hl=>ZC (II (by simp [Vf,Zu,ZQ,hn]) (by have:=Qy hn;omega) hl)))
     (ZC (II (by simp [Vf,Zu,ZQ,hn]) (by have:=Qy hn;omega) X1))))) _ _ _ _ hu hs h
theorem OA {f:Nat}:Gd QE (QZ f):=(gdE f).e
def QS (x:Stmt):Prop:=Uj x=true∧Kq x
theorem LO {l:List Stmt}(h:∀x∈l,QS x):US l=true∧Wn l:=by
 induction l with
 |nil=>exact⟨rfl,trivial⟩
 |cons a l ih=>
  obtain⟨h1,h2⟩:=ih fun x hx=>h x (dI _ hx)
  obtain⟨h3,h4⟩:=h a (dO ..)
  exact⟨by simp only[US,h3,h1,fX],h4,h2⟩
theorem L1 {k:Int}{n:Bs}{v:Exp}{b e:List Stmt}(h:Wm k n b.length e.length=true)(hn:n.length<2^60)(hv:QE v)(hb:GL QS b)(he:GL QS e):QS (.mk k n v b e):=by
 obtain⟨h1,h2⟩:=LO hb.1
 obtain⟨h3,h4⟩:=LO he.1
 exact⟨by simp only[Uj,h,h1,h3,hv.1,fX],hn,hv.2,by have:=hb.2;omega,by have:=he.2;omega,h2,h4⟩
structure GdS (f:Nat):Prop where
 b:Gd (GL QS) (Zz f)
 s:Gd QS (ZE f)
theorem Na {f:Nat}{k:Int}(hk:k=1∨k=2):Gd QS fun u=>(Z8 u).bind fun n u1=>(Qk [61] u1).bind fun _ u2=>(QZ f u2).bind fun x u3=>(Qk [59] u3).bind fun _ u4=>.ok (Stmt.mk k n x [] []) u4:=
 Qj Yi fun n hn=>Qj (Zx (by decide)) fun _ _=>Qj OA fun x hx=>Qj (Zx (by decide)) fun _ _=>ZC (L1 (by rcases hk with rfl|rfl <;> simp [Wm,hn]) (by have:=Qy hn;omega) hx X1 X1)
theorem gdS:∀f,GdS f
 |0=>⟨fun _ _ _ _ _ _ h=>by simp [Zz]at h,fun _ _ _ _ _ _ h=>by simp [ZE]at h⟩
 |f+1=>by
  have ih:=gdS f
  have tk:=HX f
  refine⟨?_,?_⟩
  ·intro s u a u' hu hs h
   simp only[Zz]at h
   exact(Qj (Zx (by decide)) fun _ _=>Ga tk.s ih.s) _ _ _ _ hu hs h
  ·intro s u a u' hu hs h
   simp only[ZE]at h
   exact(JN (c:=fun u=>cur u=JS) (JZ (Qj (Zx (by decide)) fun _ _=>Qj OA fun x hx=>Qj (Zx (by decide)) fun _ _=>Qj ih.b fun b hb=>
    JN (c:=fun u=>cur u=VJ) (JZ (Qj ih.b fun e he=>ZC (L1 (by simp [Wm]) (by simp) hx hb he))) (ZC (L1 (by simp [Wm]) (by simp) hx hb X1))))
    (JN (c:=fun u=>cur u=YB) (JZ (Qj (Zx (by decide)) fun _ _=>Qj OA fun x hx=>Qj (Zx (by decide)) fun _ _=>Qj ih.b fun b hb=>ZC (L1 (by simp [Wm]) (by simp) hx hb X1)))
    (JN (c:=fun u=>cur u=VP) (JZ (Qj OA fun x hx=>Qj (Zx (by decide)) fun _ _=>ZC (L1 (by simp [Wm]) (by simp) hx X1 X1)))
    (JN (c:=fun u=>cur u=Vx) (JZ (Na (.inl rfl))) (Na (.inr rfl)))))) _ _ _ _ hu hs h
def QF (f:Func):Prop:=(Qf f.name&&f.params.all Qf&&US f.body)=true∧Og f
theorem DB {f:Nat}:Gd QF (V0 f):=
 Qj (Zx (by decide)) fun _ _=>Qj Yi fun n hn=>Qj (Zx (by decide)) fun _ _=>Qj (Nc QQ Yi) fun ps hps=>Qj (gdS f).b fun b hb=>ZC (by
  obtain⟨h1,h2⟩:=LO hb.1
  refine⟨?_,?_,?_,?_,?_,h2⟩
  ·simp only[hn,h1,dB,dC,cH];exact hps.1
  ·have:=Qy hn;show n.length<_;omega
  ·have:=hps.2;show ps.length<_;omega
  ·intro p hp;have:=Qy (hps.1 p hp);omega
  ·have:=hb.2;show b.length<_;omega)
def QT (t:Test):Prop:=Vj t=true
theorem Dz:Gd (fun l=>(∀x∈l,QT x)∧l.length≤2) W6:=Qj Yi fun n hn=>
 have h1:∀(a b:Bool) (c:Int),ZQ c=true→(∀x∈[(⟨n,a,b,c⟩:Test)],QT x)∧[(⟨n,a,b,c⟩:Test)].length≤2:=fun a b c hc=>⟨fun x hx=>by simp only[dV]at hx;subst hx;simp [QT,Vj,hn,hc],by simp⟩
 JN (c:=fun u=>cur u=[60]) (JZ (Qj UG fun c hc=>ZC (h1 _ _ c hc))) (JN (c:=fun u=>cur u=[60,61]) (JZ (Qj UG fun c hc=>ZC (h1 _ _ c hc))) (JN (c:=fun u=>cur u=[62]) (JZ (Qj UG fun c hc=>ZC (h1 _ _ c hc)))
  (JN (c:=fun u=>cur u=[62,61]) (JZ (Qj UG fun c hc=>ZC (h1 _ _ c hc))) (JN (c:=fun u=>cur u=[61,61]) (JZ (Qj UG fun c hc=>ZC ⟨fun x hx=>by simp only[dT,dL,or_false]at hx;rcases hx with rfl|rfl <;> simp [QT,Vj,hn,hc],by simp⟩)) qX))))
theorem TU {α:Type}{k:Nat}:∀{l:List (List α)},(∀x∈l,x.length≤k)→l.flatten.length≤l.length*k
 |[],_=>by simp
 |x::l,h=>by
  have h1:=h x (dO ..)
  have h2:=TU fun y hy=>h y (dI x hy)
  simp only[List.flatten_cons,cC,cE,Nat.add_mul];omega
def PO (l:List Test):Prop:=(∀x∈l,QT x)∧l.length<2^60
theorem TR {f:Nat}:Gd PO (X0 f):=Qj (Km (by decide) H6 Dz) fun l hl=>ZC (by
 refine⟨fun x hx=> ?_,?_⟩
 ·obtain⟨y,hy,hx⟩:=List.mem_flatten.1 hx
  exact(hl.1 y hy).1 x hx
 ·have:=TU fun x hx=>(hl.1 x hx).2
  have:=hl.2;omega)
theorem Ed {l:List Test}(h:PO l):∀t∈l,t.clock.length<2^60:=fun t ht=>by
 have:=h.1 t ht
 simp only[QT,Vj,cD]at this
 have:=Qy this.1;omega
theorem N5 {l:List Test}(h:PO l):l.all Vj=true:=cH.2 h.1
def QL (l:Loc):Prop:=VG l=true∧ltL l
theorem jN:Gd (fun k=>0≤k∧k≤2) Yh:=JN (c:=fun u=>cur u=Zl) (JZ (ZC (by omega))) (JN (c:=fun u=>cur u=YO) (JZ (ZC (by omega))) (ZC (by omega)))
theorem qW {f:Nat}:Gd QL (Ks f):=Qj Yi fun n hn=>Qj jN fun k hk=>Qj (Wc (Q:=PO) ⟨fun _ h=>(by cases h),by simp⟩ TR) fun i hi=>Qj (Wc (Q:=fun n=>ZQ n=true) rfl UG) fun r hr=>Qj (Zx (by decide)) fun _ _=>ZC
 ⟨by simp only[VG,hn,hk,N5 hi,hr,and_self,decide_true,fX],by have:=Qy hn;show n.length<_;omega,hi.2,Ed hi⟩
def QX (x:Exp):Prop:=(isNone x||JA x)=true∧Of x
theorem Ss {f:Nat}:Gd (fun x=>QE x∧Of x) (QZ f):=fun s u a u' hu hs h=>by
 obtain⟨h1,h2⟩:=OA _ _ _ _ hu hs h
 have hw:=Oo _ _ _ _ hu h
 have:=hu.le
 simp only[Vg]at hw
 exact⟨⟨h1,h1.2,by omega⟩,h2⟩
theorem DE {f:Nat}:Gd QX (QZ f):=fun s u a u' hu hs h=>by
 obtain⟨⟨h1,h2⟩,h3⟩:=Ss _ _ _ _ hu hs h
 exact⟨⟨by rw[h1.1,dQ],h2⟩,h3⟩
theorem EL:QX JJ:=⟨rfl,⟨by decide,by decide,trivial⟩,by decide⟩
def QA (a:Assign):Prop:=(Qf a.name&&JA a.val)=true∧a.name.length<2^60∧Of a.val
theorem Gb {f:Nat}:Gd QA (VR f):=Qj Yi fun n hn=>Qj (Zx (by decide)) fun _ _=>Qj Ss fun x hx=>ZC
 ⟨by simp only[hn,hx.1.1,fX],by have:=Qy hn;show n.length<_;omega,hx.2⟩
def QC (c:Clear):Prop:=(Qf c.clock&&ZQ c.tv)=true
theorem FO:Gd QC UF:=Qj Yi fun n hn=>Qj (Zx (by decide)) fun _ _=>Qj UG fun x hx=>ZC (by simp only[QC,hn,hx,fX])
def QN (c:Bs×Bool):Prop:=(c.1.isEmpty=true∧c.2=false)∨Qf c.1=true
theorem DF:Gd QN WC:=Qj Yi fun n hn=>JN (c:=fun u=>cur u=[33]) (JZ (ZC (.inr hn))) (Qj (Zx (by decide)) fun _ _=>ZC (.inr hn))
def QD (x:Edge):Prop:=Ys x=true∧I3 x
theorem DC {f:Nat}:Gd QD (XB f):=
 Qj Yi fun a ha=>Qj (Zx (by decide)) fun _ _=>Qj Yi fun b hb=>Qj (Wc (Q:=PO) ⟨fun _ h=>(by cases h),by simp⟩ TR) fun ts hts=>Qj (Wc EL DE) fun c hc=>
 Qj (Wc (.inl ⟨rfl,rfl⟩) DF) fun ch hch=>Qj (Wc X1 (Km (by decide) KR Gb)) fun ss hss=>Qj (Wc X1 (Km (by decide) IM FO)) fun cs hcs=>
 Qj (Wc (Q:=fun n=>ZQ n=true) rfl UG) fun co hco=>Qj (Wc (Q:=fun n=>ZQ n=true) rfl UG) fun k hk=>Qj (Zx (by decide)) fun _ _=>ZC (by
  have h1:ss.all (fun a=>Qf a.name&&JA a.val)=true:=cH.2 fun x hx=>(hss.1 x hx).1
  have h2:cs.all (fun c=>Qf c.clock&&ZQ c.tv)=true:=cH.2 fun x hx=>hcs.1 x hx
  have h3:((!ch.1.isEmpty|| !ch.2)&&(ch.1.isEmpty||Qf ch.1))=true:=by
   rcases hch with⟨e1,e2⟩|e
   ·simp [e1,e2]
   ·have:ch.1.isEmpty=false:=by cases hc:ch.1 with
     |nil=>rw[hc]at e;cases e
     |cons a b=>rfl
    simp [e,this]
  refine⟨?_,?_,?_,hts.2,Ed hts,hc.2,?_,?_,?_,?_,?_⟩
  ·simp only[Ys,ha,hb,N5 hts,hc.1,h1,h2,hco,hk,dC,dB];simpa using h3
  ·have:=Qy ha;show a.length<_;omega
  ·have:=Qy hb;show b.length<_;omega
  ·show ch.1.length<_
   rcases hch with⟨e1,_⟩|e
   ·rw[List.isEmpty_iff]at e1;rw[e1];decide
   ·have:=Qy e;omega
  ·have:=hss.2;show ss.length<_;omega
  ·intro x hx;exact(hss.1 x hx).2
  ·have:=hcs.2;show cs.length<_;omega
  ·intro x hx
   have:=hcs.1 x hx
   simp only[QC,cD]at this
   have:=Qy this.1;omega)
def QP (p:Proc):Prop:=YA p=true∧RL p
theorem DA {f:Nat}:Gd QP (W7 f):=
 Qj Yi fun n hn=>Qj (Zx (by decide)) fun _ _=>Qj Yi fun i hi=>Qj (Zx (by decide)) fun _ _=>Qj (HQ (by decide) PY.tk0 qW) fun ls hls=>
 Qj (HQ (by decide) RX.tk0 DC) fun es hes=>Qj (Zx (by decide)) fun _ _=>ZC (by
  have h1:ls.all VG=true:=cH.2 fun x hx=>(hls.1 x hx).1
  have h2:es.all Ys=true:=cH.2 fun x hx=>(hes.1 x hx).1
  refine⟨by simp only[YA,hn,hi,h1,h2,fX],?_,?_,?_,fun x hx=>(hls.1 x hx).2,?_,fun x hx=>(hes.1 x hx).2⟩
  ·have:=Qy hn;show n.length<_;omega
  ·have:=Qy hi;show i.length<_;omega
  ·have:=hls.2;show ls.length<_;omega
  ·have:=hes.2;show es.length<_;omega)
theorem qV:Gd (fun v=>XV v=true) IC:=
 Qj Yi fun n hn=>Qj (Zx (by decide)) fun _ _=>Qj UG fun lo hlo=>Qj (Zx (by decide)) fun _ _=>Qj UG fun hi hhi=>Qj (Zx (by decide)) fun _ _=>Qj UG fun i hi=>ZC (by simp only[XV,hn,hlo,hhi,hi,fX])
theorem IV {f:Nat}{b g:Bool}:Gd (GL fun c:Chan=>Qf c.name=true) (ZF f b g):=Qj (Km (by decide) QQ Yi) fun l hl=>ZC ⟨fun c hc=>by
 obtain⟨n,hn,rfl⟩:=List.mem_map.1 hc
 exact hl.1 n hn,by rw[lG];exact hl.2⟩
def Oa (k:Nat)(d:Decls):Prop:=(∀c∈d.clocks,Qf c=true)∧(∀v∈d.vars,XV v=true)∧(∀c∈d.chans,Qf c.name=true)∧d.clocks.length≤k*20000∧d.vars.length≤k*20000∧d.chans.length≤k*20000
theorem Dy {k:Nat}{a b:Decls}(ha:Oa k a)(hb:Oa 1 b):Oa (k+1) (a.add b):=by
 obtain⟨a1,a2,a3,a4,a5,a6⟩:=ha
 obtain⟨b1,b2,b3,b4,b5,b6⟩:=hb
 refine⟨fun x hx=> ?_,fun x hx=> ?_,fun x hx=> ?_,?_,?_,?_⟩
 ·exact(fW.1 hx).elim (a1 x) (b1 x)
 ·exact(fW.1 hx).elim (a2 x) (b2 x)
 ·exact(fW.1 hx).elim (a3 x) (b3 x)
 ·show(a.clocks++b.clocks).length≤_;rw[cC];omega
 ·show(a.vars++b.vars).length≤_;rw[cC];omega
 ·show(a.chans++b.chans).length≤_;rw[cC];omega
theorem jM {l:List Bs}(h:GL (fun n=>Qf n=true) l):Oa 1 ⟨l,[],[]⟩:=⟨h.1,fun _ h=>(by cases h),fun _ h=>(by cases h),by have:=h.2;simpa using this,by simp,by simp⟩
theorem jL {v:Var}(h:XV v=true):Oa 1 ⟨[],[v],[]⟩:=⟨fun _ h=>(by cases h),fun x hx=>by simp only[dV]at hx;subst hx;exact h,fun _ h=>(by cases h),by simp,by simp,by simp⟩
theorem T2 {l:List Chan}(h:GL (fun c:Chan=>Qf c.name=true) l):Oa 1 ⟨[],[],l⟩:=⟨fun _ h=>(by cases h),fun _ h=>(by cases h),h.1,by simp,by simp,by have:=h.2;simpa using this⟩
theorem DD {N:Nat}{s u u1:Bs}{x:Decls}(hu:At s u)(hs:s.length≤20000)(h:Yz N u=some (.ok x u1)):Oa 1 x∧Beq s u u1:=by
 have key:∀{p:Bs→Res Decls} {w:Bs},Wl p→Gd (Oa 1) p→cur u=w→w≠[]→p (adv u)=.ok x u1→Oa 1 x∧Beq s u u1:=fun ht hg hc hw e=>by
  have b0:=Beh.adv hu hc hw
  exact⟨(hg _ _ _ _ b0.at' hs e).1,(b0.trans (ht _ _ _ _ b0.at' e)).beq⟩
 unfold Yz at h
 split at h
 ·rename_i hc
  exact key (p:=fun u=>(ZO [44] Z8 N u).bind fun l u1=>.ok ⟨l,[],[]⟩ u1) (Z2 (VO (by decide) QQ).tk0 fun _=>VX) (Qj (Km (by decide) QQ Yi) fun l hl=>ZC (jM hl)) hc (by decide) (lE h)
 split at h
 ·rename_i hc
  exact key (p:=fun u=>(IC u).bind fun v u1=>.ok ⟨[],[v],[]⟩ u1) (Z2 PV.tk0 fun _=>VX) (Qj qV fun l hl=>ZC (jL hl)) hc (by decide) (lE h)
 split at h
 ·rename_i hc
  exact key (p:=fun u=>(ZF N false false u).bind fun l u1=>.ok ⟨[],[],l⟩ u1) (Z2 GN.tk0 fun _=>VX) (Qj IV fun l hl=>ZC (T2 hl)) hc (by decide) (lE h)
 split at h
 ·rename_i hc
  exact key (p:=fun u=>(Qk ZX u).bind fun _ u1=>(ZF N false true u1).bind fun l u2=>.ok ⟨[],[],l⟩ u2) (Z2 (Qm (by decide)).tk0 fun _=>Z2 GN.tk0 fun _=>VX) (Qj (Zx (by decide)) fun _ _=>Qj IV fun l hl=>ZC (T2 hl)) hc (by decide) (lE h)
 split at h
 ·rename_i hc
  have h:=lE h
  split at h
  ·rename_i hc2
   have b0:=Beh.adv hu hc (by decide)
   have b1:=Beh.adv b0.at' hc2 (by decide)
   have ht:Wl fun u=>(Qk ZX u).bind fun _ u1=>(ZF N true true u1).bind fun l u2=>(.ok ⟨[],[],l⟩ u2:Res Decls):=Z2 (Qm (by decide)).tk0 fun _=>Z2 GN.tk0 fun _=>VX
   have hg:Gd (Oa 1) fun u=>(Qk ZX u).bind fun _ u1=>(ZF N true true u1).bind fun l u2=>(.ok ⟨[],[],l⟩ u2:Res Decls):=Qj (Zx (by decide)) fun _ _=>Qj IV fun l hl=>ZC (T2 hl)
   exact⟨(hg _ _ _ _ b1.at' hs h).1,((b0.trans b1.beq).trans (ht _ _ _ _ b1.at' h)).beq⟩
  ·exact key (p:=fun u=>(Qk ZX u).bind fun _ u1=>(ZF N true false u1).bind fun l u2=>.ok ⟨[],[],l⟩ u2) (Z2 (Qm (by decide)).tk0 fun _=>Z2 GN.tk0 fun _=>VX) (Qj (Zx (by decide)) fun _ _=>Qj IV fun l hl=>ZC (T2 hl)) hc (by decide) h
 ·cases h
theorem TT {N:Nat}:∀f k d s u a u',At s u→s.length≤20000→Oa k d→k+u.length≤20000→J9 N f d u=.ok a u'→Oa 20000 a∧At s u'
 |0,_,_,_,_,_,_,_,_,_,_,h=>by simp [J9]at h
 |f+1,k,d,s,u,a,u',hu,hs,hd,hn,h=>by
  simp only[J9]at h
  split at h
  ·cases h
   obtain⟨a1,a2,a3,a4,a5,a6⟩:=hd
   have:k*20000≤20000*20000:=fF _ (by omega)
   exact⟨⟨a1,a2,a3,fI a4 this,fI a5 this,fI a6 this⟩,hu⟩
  ·rename_i r hr
   obtain⟨x,u1,h1,hh⟩:=bind_ok h
   obtain⟨_,u2,h2,hh⟩:=bind_ok hh
   subst h1
   obtain⟨g,b⟩:=DD hu hs hr
   have b2:=Qm (by decide) _ _ _ _ b.at' h2
   have:=b.le;have:=b2.lt
   exact TT f (k+1) _ _ _ _ _ b2.at' hs (Dy hd g) (by omega) hh
theorem TS {N:Nat}:∀f l s u a u',At s u→s.length≤20000→(∀x∈l,QF x)→l.length+u.length≤20000→J8 Hw l+u.length≤20000→U9 N f l u=.ok a u'→(∀x∈a,QF x)∧a.length≤20000∧J8 Hw a≤20000∧At s u'
 |0,_,_,_,_,_,_,_,_,_,_,h=>by simp [U9]at h
 |f+1,l,s,u,a,u',hu,hs,hq,hn,hw,h=>by
  simp only[U9]at h
  split at h
  ·obtain⟨x,u1,h2,h⟩:=bind_ok h
   have b1:=LL _ _ _ _ hu h2
   have:=b1.lt
   have:=RQ _ _ _ _ hu h2
   have q:=(DB _ _ _ _ hu hs h2).1
   exact TS f _ _ _ _ _ b1.at' hs (fun y hy=>by
    rcases fW.1 hy with hy|hy
    ·exact hq y hy
    ·simp only[dV]at hy;subst hy;exact q) (by simp only[cC,cQ];omega) (by rw[HG,IN];omega) h
  ·cases h;exact⟨hq,by omega,by omega,hu⟩
theorem IY:∀(l:List Stmt) (m:Siz),(Zt m l).nodes=m.nodes+J8 Yy l
 |[],m=>rfl
 |x::l,m=>by
  show(Zt (m.bes (Jc x)) l).nodes=_
  rw[IY l,JR]
  simp only[Siz.bes,Yy];omega
theorem Tu:∀(l:List Func) (m:Siz),(ZY m l).nodes≤m.nodes+J8 Hw l
 |[],m=>fG _
 |x::l,m=>by
  show(ZY (Zt m x.body) l).nodes≤_
  have:=Tu l (Zt m x.body)
  rw[IY]at this
  rw[JR];simp only[Hw];omega
theorem FM {N:Nat}:Gd (fun m=>WK m=true∧LtM m) (WQ N):=fun s u a u' hu hs h=>by
 unfold WQ at h
 obtain⟨_,u1,h1,h⟩:=bind_ok h
 obtain⟨n,u2,h2,h⟩:=bind_ok h
 obtain⟨_,u3,h3,h⟩:=bind_ok h
 obtain⟨d,u4,h4,h⟩:=bind_ok h
 obtain⟨fs,u5,h5,h⟩:=bind_ok h
 obtain⟨ps,u6,h6,h⟩:=bind_ok h
 have b1:=(Zx (by decide) _ _ _ _ hu hs h1).2
 obtain⟨hn,b2⟩:=Yi _ _ _ _ b1 hs h2
 have b3:=(Zx (by decide) _ _ _ _ b2 hs h3).2
 obtain⟨hd,b4⟩:=TT N 0 _ _ _ _ _ b3 hs ⟨fun _ h=>(by cases h),fun _ h=>(by cases h),fun _ h=>(by cases h),by simp,by simp,by simp⟩ (by have:=b3.le;omega) h4
 obtain⟨hf1,hf2,hf3,b5⟩:=TS N [] _ _ _ _ b4 hs (fun _ h=>(by cases h)) (by have:=b4.le;simp only[cL];omega) (by have:=b4.le;rw[Jz];omega) h5
 obtain⟨hp,b6⟩:=HQ (by decide) Ew.tk0 DA _ _ _ _ b5 hs h6
 split at h
 ·cases h
  obtain⟨d1,d2,d3,d4,d5,d6⟩:=hd
  refine⟨⟨?_,?_⟩,b6⟩
  ·have e1:d.clocks.all Qf=true:=cH.2 d1
   have e2:d.vars.all XV=true:=cH.2 d2
   have e3:d.chans.all Oe=true:=cH.2 d3
   have e4:Um fs=true:=cH.2 fun x hx=>(hf1 x hx).1
   have e5:ps.all YA=true:=cH.2 fun x hx=>(hp.1 x hx).1
   simp only[WK,hn,e1,e2,e3,e4,e5,fX]
  ·refine⟨?_,?_,fun c hc=> ?_,?_,fun v hv=> ?_,?_,fun c hc=> ?_,?_,fun f hf=>(hf1 f hf).2,?_,?_,fun p hp'=>(hp.1 p hp').2⟩
   ·have:=Qy hn;show n.length<_;omega
   ·show d.clocks.length<_;omega
   ·have:=Qy (d1 c hc);omega
   ·show d.vars.length<_;omega
   ·have:=d2 v hv
    simp only[XV,cD]at this
    have:=Qy this.1;omega
   ·show d.chans.length<_;omega
   ·have:=Qy (d3 c hc);omega
   ·show fs.length<_;omega
   ·have:=Tu fs ⟨0,0,false⟩
    simp only at this
    show(ZY ⟨0,0,false⟩ fs).nodes<_;omega
   ·have:=hp.2;show ps.length<_;omega
 ·cases h
def Siz.le (m n:Siz):Prop:=m.nodes≤n.nodes∧m.depth≤n.depth∧(m.wide=true→n.wide=true)
theorem Siz.le_refl (m:Siz):m.le m:=⟨fG _,fG _,id⟩
theorem Siz.le.trans {a b c:Siz}(h:a.le b)(k:b.le c):a.le c:=⟨fI h.1 k.1,fI h.2.1 k.2.1,fun x=>k.2.2 (h.2.2 x)⟩
theorem Siz.le.small {m n:Siz}(h:m.le n)(hn:n.small=true):m.small=true:=by
 obtain⟨h1,h2,h3⟩:=h
 simp only[Siz.small,cD,dZ,Bool.not_eq_true']at hn⊢
 refine⟨⟨by omega,by omega⟩,?_⟩
 cases hm:m.wide with
 |false=>rfl
 |true=>rw[h3 hm]at hn;exact absurd hn.2 (by simp)
theorem E7 {a b n:Siz}(h:a.le b):(a.bes n).le (b.bes n):=by
 obtain⟨h1,h2,h3⟩:=h
 refine⟨?_,?_,?_⟩
 ·simp only[Siz.bes];omega
 ·simp only[Siz.bes];omega
 ·simp only[Siz.bes,lA];exact fun h=>h.imp h3 id
theorem qG (a n:Siz):a.le (a.bes n):=by
 refine⟨?_,?_,?_⟩
 ·simp only[Siz.bes];omega
 ·simp only[Siz.bes];omega
 ·simp only[Siz.bes,lA];exact .inl
theorem Lh:∀(l:List Stmt) {a b:Siz},a.le b→(Zt a l).le (Zt b l)
 |[],_,_,h=>h
 |x::l,_,_,h=>Lh l (E7 h)
theorem TM:∀(l:List Stmt) (a:Siz),a.le (Zt a l)
 |[],a=>Siz.le_refl a
 |x::l,a=>(qG a _).trans (TM l _)
theorem TN:∀(l:List Func) (a:Siz),a.le (ZY a l)
 |[],a=>Siz.le_refl a
 |x::l,a=>(TM x.body a).trans (TN l _)
theorem zero_le (a:Siz):Siz.le ⟨0,0,false⟩ a:=⟨lO _,lO _,fun h=>by cases h⟩
theorem Tv:∀(l:List Func) (a:Siz) {f:Func},f∈l→(ZY ⟨0,0,false⟩ [f]).le (ZY a l)
 |x::l,a,f,h=>by
  rcases dT.1 h with rfl|h
  ·exact(Lh f.body (zero_le a)).trans (TN l _)
  ·exact Tv l _ h
theorem Rm {l:List Func}(h:JW l=true){f:Func}(hf:f∈l):Z0 f=true:=by
 simp only[JW,Z0,cD,cH,dZ]at h⊢
 exact⟨⟨fun x hx=>by simp only[dV]at hx;subst hx;exact h.1.1 x hf,(Tv l _ hf).small h.1.2⟩,by simp⟩
theorem Ph {x:Exp}(h:isNone x=true):J1 x=true:=by
 obtain⟨k,n,i,xs⟩:=x
 simp only[isNone,cD]at h
 have:xs=[]:=List.isEmpty_iff.1 h.2
 subst this
 rfl
theorem DG {m:Model}(h:UT m=true):IF m=false:=by
 simp only[UT,cD]at h
 have h1:m.funcs.any (fun f=> !Z0 f)=false:=by
  rw[fM]
  intro f hf
  rw[Rm h.1.1.2 hf];simp
 have h2:m.procs.any Vi=false:=by
  rw[fM]
  intro p hp
  have hp:=cH.1 h.2 p hp
  simp only[XO,cD]at hp
  simp only[Vi,cP,fM]
  intro x hx
  have hx:=cH.1 hp.2 x hx
  simp only[Xi,cD,lA]at hx
  have e1:J1 x.cond=true:=hx.1.1.1.2.elim Ph id
  simp only[JL,ZW,e1,cM,cZ,fM,cP]
  intro a ha
  simp only[YT,ZW,cH.1 hx.1.2 a ha,cM]
 rw[IF,h1,h2];rfl
theorem E3 {x:Edge}(h:JL x=false):Kb x=x:=by
 simp only[JL,Bool.or_eq_false_iff,fM]at h
 have e1:XJ x.cond=x.cond:=by
  have:J1 x.cond=true:=by simpa[ZW]using h.1
  simp [XJ,this]
 have e2:x.sets.map IE=x.sets:=by
  conv=>rhs;rw[←List.map_id x.sets]
  refine List.map_congr_left fun a ha=> ?_
  have:J1 a.val=true:=by simpa[YT,ZW]using h.2 a ha
  simp [IE,XJ,this]
 simp only[Kb,e1,e2]
theorem DP {p:Proc}(h:Vi p=false):Kt p=p:=by
 simp only[Vi,fM]at h
 have e2:p.edges.map Kb=p.edges:=by
  conv=>rhs;rw[←List.map_id p.edges]
  exact List.map_congr_left fun a ha=>E3 (by simpa using h a ha)
 simp only[Kt,e2]
theorem FH {m:Model}(h:IF m=false):H2 m=m:=by
 simp only[IF,Bool.or_eq_false_iff,fM]at h
 have:m.funcs.filter Z0=m.funcs:=List.filter_eq_self.2 fun f hf=>by simpa using h.1 f hf
 simp only[H2,this]
theorem F4 {m:Model}(h:IF m=false):Qr 4 (fun p=>(Kt p).cells) m.procs=Qr 4 Proc.cells m.procs:=by
 simp only[IF,Bool.or_eq_false_iff,fM]at h
 simp only[Qr]
 congr 1
 have:∀l:List Proc,(∀p∈l,Vi p=false)→l.flatMap (fun p=>(Kt p).cells)=l.flatMap Proc.cells:=by
  intro l
  induction l with
  |nil=>intro _;rfl
  |cons a l ih=>intro h;rw[dD,dD,ih fun p hp=>h p (dI _ hp),DP (h a (dO ..))]
 exact this _ fun p hp=>by simpa using h.2 p hp
def WP (N:Nat)(s:Bs):Model×Int×Int:=
 if 20000<s.length then(Kp,0,3)else match WQ N (skip s)with
  | .ok m _=>if UT m then(m,0,0)else(Kp,0,3)
  | .bad u=>(Kp,(s.length - u.length:Nat),80)
def Ir (r:Model×Int×Int):AV:=.tuple [.agg r.1.cells,i64 r.2.1,i64 r.2.2]
theorem Wy {P:Program}{G:Nat→Option (List AV)}{pn:Option AV}{A:Q2}{K:Option AV→Q2→Prop}:XD P G [] pn A K=K pn A:=propext Iff.rfl
theorem QU.trans {A B C:Q2}(h:QU A B)(k:QU B C):QU A C:=fun x=>by
 rcases k x with k1|⟨k1,k2⟩
 ·rw[k1];exact h x
 ·exact .inr ⟨h.gone k1,fun es he j l e hj=>k2 es he j l e (h.keep hj)⟩
section
variable (G:Nat→Option (List AV))
theorem n22 {A:Q2}{a b e:Nat}{s u:Bs}{va:List AV}{vb ve:AV}(ha:A a=some (.cells va))(hva:va.length=6)(hb:A b=some (.cells [vb]))(he:A e=some (.cells [ve]))(hab:a≠b)(hae:a≠e)(hbe:b≠e):
 K0 Tryz.prog G 22 [.ptr a 0,.ptr b 0,.ptr e 0] (some (U8 59 s u)) A (fun pn A'=>pn=none∧A'=((A.upd a (some (.cells [.str [],.raw (.slice none 0 0),.raw (.slice none 0 0),.raw (.slice none 0 0),.raw (.slice none 0 0),.raw (.slice none 0 0)]))).upd b (some (.cells [i64 (s.length - u.length:Nat)]))).upd e (some (.cells [i64 80]))):=by
 obtain⟨v1,v2,v3,v4,v5,v6,rfl⟩:∃v1 v2 v3 v4 v5 v6,va=[v1,v2,v3,v4,v5,v6]:=by
  match va,hva with
  |[v1,v2,v3,v4,v5,v6],_=>exact⟨_,_,_,_,_,_,rfl⟩
 refine IW l22 (fE rfl) ?_
 simp only[L22,Xm,M2,U8,Q1,seval]
 intro t ht
 have hta:=Q6 ha ht
 have htb:=Q6 hb ht
 have hte:=Q6 he ht
 simp only[Xm,Q5 hta,Q5 htb,Q5 hte,Q5 hta.symm,Q5 htb.symm,Q5 hab.symm,Q5 hae.symm,Q5 hbe.symm,ha,hb,he,QM,Q1,seval]
 refine⟨_,Xs fun k=> ?_,rfl⟩
 by_cases h1:k=e
 ·subst h1;exact .inl (by rw[Q0,Q0])
 by_cases h2:k=b
 ·subst h2;exact .inl (by rw[Q5 h1,Q5 h1,Q0,Q0])
 by_cases h4:k=a
 ·subst h4;exact .inl (by rw[Q5 h1,Q5 h2,Q5 h1,Q5 h2,Q0,Q0])
 by_cases h3:k=t
 ·subst h3;exact .inr ⟨by simp only[Q2.upd,h1,h2,h4,if_false];exact ht,by simp [Q2.upd,h1,h2,h4]⟩
 ·exact .inl (by simp only[Q2.upd,h1,h2,h3,h4,if_false])
theorem Gr {A:Q2}{a b e:Nat}:K0 Tryz.prog G 22 [.ptr a 0,.ptr b 0,.ptr e 0] none A (fun pn A'=>pn=none∧A'=A):=by
 refine IW l22 (fE rfl) ?_
 simp only[L22,Xm,M2,Q1,seval]
 exact⟨_,VU.refl _,rfl⟩
theorem Ig:Wk (.agg [.str [],.raw (.slice none 0 0),.raw (.slice none 0 0),.raw (.slice none 0 0),.raw (.slice none 0 0),.raw (.slice none 0 0)]) (.agg Kp.cells):=
 Y9 (.cons (Wk.refl _) (.cons Jf (.cons Jf (.cons Jf (.cons Jf (.cons Jf .nil))))))
theorem n9 (hG:Gl G){N:Nat}{A:Q2}{s:Bs}(hN:10*s.length+11≤N):QB Tryz.prog G 9 [.str s] A (Ir (WP N s)) A:=by
 refine Q4 l9 (fE rfl) ?_
 simp only[C9,Q1,seval]
 intro a ha b hb e he
 obtain⟨hba,hb⟩:=Q9 hb
 obtain⟨heb,he⟩:=Q9 he
 obtain⟨hea,he⟩:=Q9 he
 have nab:=hba.symm;have nae:=hea.symm;have nbe:=heb.symm
 refine⟨fun hl=> ?_,fun hl=> ?_⟩
 ·have hl':20000<s.length:=by omega
  simp only[Q5 hba,Q5 hea,Q5 heb,Q5 nab,Q5 nae,Q5 nbe,Xm,Wy,Q1,seval]
  rw[WP,fC hl']
  exact YE (Uv Ig) (by repeat(first|exact QU.refl _|refine QU.set ?_ (by assumption) (by simp [rk,JG,rd,Zv])))
 ·have hl':¬20000<s.length:=by omega
  rw[WP,fD hl']
  intro r0 hr0 m hm
  have hO0:QU A (((A.upd a (some (.cells [.str [],.raw (.slice none 0 0),.raw (.slice none 0 0),.raw (.slice none 0 0),.raw (.slice none 0 0),.raw (.slice none 0 0)]))).upd b (some (.cells [i64 0]))).upd e (some (.cells [i64 0]))):=(by repeat(first|exact QU.refl _|refine QU.set ?_ (by assumption) (by simp [rk,JG,rd,Zv])))
  have e1:(((A.upd a (some (.cells [.str [],.raw (.slice none 0 0),.raw (.slice none 0 0),.raw (.slice none 0 0),.raw (.slice none 0 0),.raw (.slice none 0 0)]))).upd b (some (.cells [i64 0]))).upd e (some (.cells [i64 0]))) a=some (.cells [.str [],.raw (.slice none 0 0),.raw (.slice none 0 0),.raw (.slice none 0 0),.raw (.slice none 0 0),.raw (.slice none 0 0)]):=by
   rw[Q5 nae,Q5 nab,Q0]
  have e2:(((A.upd a (some (.cells [.str [],.raw (.slice none 0 0),.raw (.slice none 0 0),.raw (.slice none 0 0),.raw (.slice none 0 0),.raw (.slice none 0 0)]))).upd b (some (.cells [i64 0]))).upd e (some (.cells [i64 0]))) b=some (.cells [i64 0]):=by
   rw[Q5 nbe,Q0]
  have e3:(((A.upd a (some (.cells [.str [],.raw (.slice none 0 0),.raw (.slice none 0 0),.raw (.slice none 0 0),.raw (.slice none 0 0),.raw (.slice none 0 0)]))).upd b (some (.cells [i64 0]))).upd e (some (.cells [i64 0]))) e=some (.cells [i64 0]):=Q0 ..
  generalize(((A.upd a (some (.cells [.str [],.raw (.slice none 0 0),.raw (.slice none 0 0),.raw (.slice none 0 0),.raw (.slice none 0 0),.raw (.slice none 0 0)]))).upd b (some (.cells [i64 0]))).upd e (some (.cells [i64 0])))=A0 at*
  obtain⟨hmr,hm0⟩:=Q9 hm
  refine Q3 (f23 G (a:=0) (b:=0) (l:=false) (s:=s) ((Q5 hmr.symm).trans (Q0 ..)) (by omega) (by omega) _ rfl) ?_
  have erd:Zv s (0+QG false (s.drop 0)) (0+QG false (s.drop 0)+Z3 (s.drop (0+QG false (s.drop 0)))) false=rd s (skip s) false:=by
   have:=Yx s false
   simp only[rd,skip,List.drop_zero,lN,dW]
   congr 1 <;> congr 1 <;> omega
  rw[erd]
  have hu:At s (skip s):=At.skip List.suffix_rfl
  have h:Mk A0 m r0 s Kp (skip s) false (((A0.upd r0 (some (Zv s 0 0 false))).upd m (some (.cells [.ptr r0 0,.str [],.raw (.slice none 0 0),.raw (.slice none 0 0),.raw (.slice none 0 0),.raw (.slice none 0 0),.raw (.slice none 0 0)]))).upd r0 (some (rd s (skip s) false))):=by
   refine⟨(by repeat(first|exact QU.refl _|refine QU.set ?_ (by assumption) (by simp [rk,JG,rd,Zv]))),hr0,hm0,Q0 ..,_,_,_,_,_,none,none,none,none,none,?_,⟨.inl ⟨rfl,rfl,rfl⟩,.inl ⟨rfl,rfl,rfl⟩,.inl ⟨rfl,rfl,rfl⟩,.inl ⟨rfl,rfl,rfl⟩,.inl ⟨rfl,rfl,rfl⟩⟩,⟨fun i t h=> ?_,fun i j t h=> ?_⟩⟩
   ·rw[Q5 hmr,Q0];rfl
   ·match i,h with
    |0,h|1,h|2,h|3,h|4,h=>cases h
   ·match i,h with
    |0,h|1,h|2,h|3,h|4,h=>cases h
  generalize(((A0.upd r0 (some (Zv s 0 0 false))).upd m (some (.cells [.ptr r0 0,.str [],.raw (.slice none 0 0),.raw (.slice none 0 0),.raw (.slice none 0 0),.raw (.slice none 0 0),.raw (.slice none 0 0)]))).upd r0 (some (rd s (skip s) false)))=B at*
  have hle:=hu.le
  simp only[Q1,seval]
  refine Qg (n24 G hG (N:=N) h hu (by omega) (by omega)) ?_
  intro o B' ho
  cases hR:WQ N (skip s)with
  |bad u=>
   rw[hR]at ho
   obtain⟨rfl,hO⟩:=ho
   simp only[Xm,Q1,seval]
   refine K0.mono (n22 G (hO.keep e1) rfl (hO.keep e2) (hO.keep e3) nab nae nbe) ?_
   rintro pn A' ⟨rfl,rfl⟩
   have hO':=((((hO0.trans hO).set ha (by simp)).set hb (by simp)).set he (by simp):QU A (((B'.upd a (some (.cells [.str [],.raw (.slice none 0 0),.raw (.slice none 0 0),.raw (.slice none 0 0),.raw (.slice none 0 0),.raw (.slice none 0 0)]))).upd b (some (.cells [i64 (s.length - u.length:Nat)]))).upd e (some (.cells [i64 80]))))
   simp only[Q5 hba,Q5 hea,Q5 heb,Q5 nab,Q5 nae,Q5 nbe,Xm,Wy,Q1,seval]
   exact YE (Uv Ig) hO'
  |ok M u=>
   rw[hR]at ho
   obtain⟨rfl,h⟩:=ho
   simp only[cZ]at h
   obtain⟨hwf,hlt⟩:=(FM _ _ _ _ hu (by omega) hR).1
   have hO:=hO0.trans h.ovr
   have e1:=h.ovr.keep e1
   have e2:=h.ovr.keep e2
   have e3:=h.ovr.keep e3
   obtain⟨v1,v2,v3,v4,v5,t1,t2,t3,t4,t5,h1,h2,h3⟩:=h.hm
   have hr1:=h.hr
   rw[K9]at hr1
   cases hbig:IF M with
   |true=>
    have hfew:UT M=false:=by
     cases hf:UT M with
     |false=>rfl
     |true=>rw[DG hf]at hbig;cases hbig
    rw[hbig]at hr1
    simp only[h1,hr1,e1,e2,e3,Q5 hba,Q5 hea,Q5 heb,Q5 nab,Q5 nae,Q5 nbe,Xm,Q1,seval]
    refine K0.mono (Gr G) ?_
    rintro pn A' ⟨rfl,rfl⟩
    simp only[Q5 hba,Q5 hea,Q5 heb,Q5 nab,Q5 nae,Q5 nbe,Xm,Wy,hfew,Q1,seval]
    exact YE (Uv Ig) (((hO.set ha (by simp)).set hb (by simp)).set he (by simp))
   |false=>
    rw[hbig]at hr1
    simp only[h1,hr1,e1,e2,e3,Q5 hba,Q5 hea,Q5 heb,Q5 nab,Q5 nae,Q5 nbe,Xm,Q1,seval]
    have hk:=FH hbig
    rw[hk]at h2
    obtain⟨g1,g2,g3,g4,g5⟩:=h2
    have hp:(.slice 4 M.procs.length (M.procs.flatMap fun p=>(Kt p).cells) none:AV)=Qr 4 Proc.cells M.procs:=F4 hbig
    have g5':=g5.wk
    rw[Qr,hp]at g5'
    have hwk:Xn [.str (H2 M).name,v1,v2,v3,v4,v5] M.cells:=by
     rw[hk]
     exact .cons (Wk.refl _) (.cons g1.wk (.cons g2.wk (.cons g3.wk (.cons g4.wk (.cons g5' .nil)))))
    have h16:QB Tryz.prog G 16 [.agg [.str (H2 M).name,v1,v2,v3,v4,v5]] B' (i64 (VV M)) B':=Qq.wk (.cons (Y9 hwk) .nil) (PM G M hlt)
    refine Q3 h16 ?_
    have hf:VV M=if UT M then 0 else 3:=by rw[VV,fC hwf];rfl
    rw[hf]
    cases hfew:UT M with
    |false=>
     simp only[h1,hr1,e1,e2,e3,Q5 hba,Q5 hea,Q5 heb,Q5 nab,Q5 nae,Q5 nbe,Xm,Q1,seval]
     refine K0.mono (Gr G) ?_
     rintro pn A' ⟨rfl,rfl⟩
     simp only[Q5 hba,Q5 hea,Q5 heb,Q5 nab,Q5 nae,Q5 nbe,Xm,Wy,Q1,seval]
     exact YE (Uv Ig) (((hO.set ha (by simp)).set hb (by simp)).set he (by simp))
    |true=>
     simp only[h1,hr1,e1,e2,e3,g1.one,g2.one,g3.one,g4.one,g5.one,Q5 hba,Q5 hea,Q5 heb,Q5 nab,Q5 nae,Q5 nbe,Xm,Q1,seval]
     refine K0.mono (Gr G) ?_
     rintro pn A' ⟨rfl,rfl⟩
     simp only[Q5 hba,Q5 hea,Q5 heb,Q5 nab,Q5 nae,Q5 nbe,Xm,Wy,Q1,seval]
     exact YE (Uv (Y9 hwk)) (((hO.set ha (by simp)).set hb (by simp)).set he (by simp))
end
def J4 (k:Int):Nat:=if k=18 then 0 else if k=3∨k=4 then 6 else if k=1∨k=2∨k=19 then 7 else(Ji k).2
def Je (l:Nat)(k:Int)(t:Bs):Bs:=if J4 k<l then 40::(t++[41])else t
def Vu (k:Int)(n:Bs)(i:Int)(xs:List Exp)(ts:List Bs):Bs:=
 if k=1 then Lib.itoa i else if k=2 then n
 else if k=3 then 45::Je (if(xs.getD 0 JJ).kind=1∧0≤(xs.getD 0 JJ).int then 8 else 6) (xs.getD 0 JJ).kind (ts.getD 0 [])
 else if k=4 then 33::Je 6 (xs.getD 0 JJ).kind (ts.getD 0 [])
 else if k=18 then Je 1 (xs.getD 0 JJ).kind (ts.getD 0 [])++[32,63,32]++ts.getD 1 []++[32,58,32]++ts.getD 2 []
 else if k=19 then n++[40]++Lib.join ts [44,32]++[41]
 else Je (if J4 k=3 then 4 else J4 k) (xs.getD 0 JJ).kind (ts.getD 0 [])++[32]++(Ji k).1++[32]++Je (J4 k+1) (xs.getD 1 JJ).kind (ts.getD 1 [])
mutual
def Qz:Exp→Bs
 | .mk k n i xs=>Vu k n i xs (SI xs)
def SI:List Exp→List Bs
 |[]=>[]
 |x::xs=>Qz x::SI xs
end
theorem IL:∀xs:List Exp,SI xs=xs.map Qz
 |[]=>rfl
 |x::xs=>by simp only[SI,cJ,IL xs]
def ZV (d:Nat):Bs:=List.replicate d 9
def Ym (k:Int)(n:Bs):Bs:=
 if k=1 then[118,97,114,32]++n++[32,61,32]else if k=2 then n++[32,61,32]else if k=5 then[114,101,116,117,114,110,32]else if k=3 then[105,102,32,40]else if k=4 then[119,104,105,108,101,32,40]else[]
mutual
def Vk:Nat→Stmt→Bs
 |d,.mk k n v b e=>ZV d++(Ym k n++(Qz v++(if k=3∨k=4 then[41,32,123,10]++(Zo (d+1) b++((if e.isEmpty then[]else ZV d++([125,32,101,108,115,101,32,123,10]++Zo (d+1) e))++(ZV d++[125,10])))else[59,10])))
def Zo:Nat→List Stmt→Bs
 |_,[]=>[]
 |d,x::xs=>Vk d x++Zo d xs
end
theorem OG:∀(d:Nat) (xs:List Stmt),Zo d xs=xs.flatMap (Vk d)
 |_,[]=>rfl
 |d,x::xs=>by simp only[Zo,dD,OG d xs]
def O8 (f:Func):Bs:=VI++[32]++f.name++[40]++Lib.join f.params [44,32]++[41,32,123,10]++Zo 1 f.body++[125,10]
def Vw (l:List Func):Bs:=l.flatMap O8
def XL (t:Test):Bs:=t.clock++[32]++((if t.lower then[62]else[60])++(if t.strict then[]else[61]))++[32]++Lib.itoa t.c
def YQ (l:List Test):Bs:=Lib.join (l.map XL) [32,38,38,32]
def U5 (a:Assign):Bs:=a.name++[32,61,32]++Qz a.val
def Uk (c:Clear):Bs:=c.clock++[32,61,32]++Lib.itoa c.tv
def Z9 (is:Bool)(w t:Bs):Bs:=if is then[32]++w++[32]++t else[]
def U6 (x:Edge):Bs:=
 [9]++Yb++[32]++x.src++[32,45,62,32]++x.dst++Z9 (!x.tests.isEmpty) YL (YQ x.tests)++Z9 (!(isNone x.cond)) JS (Qz x.cond)++Z9 (!x.chan.isEmpty) Yj (x.chan++(if x.send then[33]else[63]))++
 Z9 (!x.sets.isEmpty) U2 (Lib.join (x.sets.map U5) [44,32])++Z9 (!x.clears.isEmpty) Jg (Lib.join (x.clears.map Uk) [44,32])++Z9 (x.cost !=0) JH (Lib.itoa x.cost)++Z9 (x.kind !=0) JC (Lib.itoa x.kind)++[59,10]
def Xo (k:Int):Bs:=if k=1 then[32]++Zl else if k=2 then[32]++YO else[]
def XW (l:Loc):Bs:=[9]++YR++[32]++l.name++Xo l.kind++Z9 (!l.inv.isEmpty) Uo (YQ l.inv)++Z9 (l.rate !=0) YX (Lib.itoa l.rate)++[59,10]
def U4 (p:Proc):Bs:=Jq++[32]++p.name++[32]++XA++[32]++p.init++[32,123,10]++p.locs.flatMap XW++p.edges.flatMap U6++[125,10]
def UC (v:Var):Bs:=Vx++[32]++v.name++[32]++M1++[32]++Lib.itoa v.low++[46,46]++Lib.itoa v.high++[32,61,32]++Lib.itoa v.init++[59,10]
def V7 (c:Chan):Bs:=(if c.broadcast then Jm++[32]else[])++(if c.urgent then Zl++[32]else[])++ZX++[32]++c.name++[59,10]
def XH (l:List Bs):Bs:=if l.isEmpty then[]else Kw++[32]++Lib.join l [44,32]++[59,10]
def Xr (m:Model):Bs:=W8++[32]++m.name++[59,10]++XH m.clocks++m.vars.flatMap UC++m.chans.flatMap V7++Vw m.funcs++m.procs.flatMap U4
end Go.Proofs.YtcbjbgaefighcaaGreatDoor
