/- Part 26 of the proof. -/
import Derived.Test.YtcbjbgaefighcaaGreatDoorT0
import Derived.Test.YtcbjbgaefighcaaGreatDoorT16
import Derived.Test.YtcbjbgaefighcaaGreatDoorT23
import Derived.Test.YtcbjbgaefighcaaGreatDoorT25
import Derived.Lib.Join
import Derived.Lib.ItoaNum
set_option linter.all false
namespace Go.Proofs.YtcbjbgaefighcaaGreatDoor
open Go Go.Ax Go.Proofs
def Gd {α:Type}(Q:α→Prop)(p:Bs→Res α):Prop:=∀s u a u',At s u→s.length≤20000→p u=.ok a u'→Q a∧At s u'
def GL {α:Type}(Q:α→Prop)(l:List α):Prop:=(∀x∈l,Q x)∧l.length≤20000
theorem Qy {n:Bs}(h:Qk n=true):n.length≤16:=by
 unfold Qk at h
 split at h
 ·cases h
 ·simp only[cD,dZ]at h;exact h.1.1.1
section
variable {α β:Type}{Q:α→Prop}{R:β→Prop}
theorem Zr {a:α}(h:Q a):Gd Q fun u=>.ok a u:=fun s u a' u' hu _ e=>by cases e;exact⟨h,hu⟩
theorem Qj {p:Bs→Res α}{k:α→Bs→Res β}(hp:Gd Q p)(hk:∀a,Q a→Gd R (k a)):Gd R fun u=>(p u).bind k:=fun s u b u' hu hs e=>by
 obtain⟨a,u1,h1,h2⟩:=bind_ok e
 obtain⟨q,hu1⟩:=hp _ _ _ _ hu hs h1
 exact hk a q _ _ _ _ hu1 hs h2
theorem gd_true {p:Bs→Res α}(h:Xv p):Gd (fun _=>True) p:=fun s u a u' hu _ e=>⟨trivial,(h _ _ _ _ hu e).at'⟩
theorem Zo {w:Bs}(hw:w≠[]):Gd (fun _=>True) (Qw w):=gd_true (Qm hw).tk0
theorem JO:Gd (fun n=>Qk n=true) Zb:=fun s u a u' hu _ e=>by
 refine⟨?_,(QM _ _ _ _ hu e).at'⟩
 unfold Zb at e
 split at e
 ·cases e;assumption
 ·cases e
theorem H6 {b:Bool}:Gd (fun n=>ZR n=true) (JF b):=fun s u a u' hu _ e=>by
 refine⟨?_,(Wv _ _ _ _ hu e).at'⟩
 unfold JF at e
 split at e
 ·split at e
  ·cases e
  ·rename_i h
   cases e
   simp only[ZR,dZ]
   split <;> omega
 ·cases e
theorem Jt {p:Bs→Res α}(h:Gd Q p):Gd Q fun u=>p (adv u):=fun s u a u' hu hs e=>h _ _ _ _ hu.adv hs e
theorem Jl {c:Bs→Prop}[∀u,Decidable (c u)]{p q:Bs→Res α}(hp:Gd Q p)(hq:Gd Q q):Gd Q fun u=>if c u then p u else q u:=fun s u a u' hu hs e=>by
 simp only at e
 split at e
 ·exact hp _ _ _ _ hu hs e
 ·exact hq _ _ _ _ hu hs e
theorem VW:Gd (fun n=>ZR n=true) Yf:=Jl (Jt H6) H6
theorem Xo {w:Bs}{d:α}{p:Bs→Res α}(hd:Q d)(hp:Gd Q p):Gd Q (YR w d p):=Jl (Jt hp) (Zr hd)
theorem CE:Gd Q fun u=>(.bad u:Res α):=fun s u a u' hu hs e=>by cases e
theorem Sf {sep:Bs}{one:Bs→Res α}(hs:sep≠[])(ht:Tk one)(h1:Gd Q one):∀f l s u a u',At s u→s.length≤20000→(∀x∈l,Q x)→l.length+u.length≤20000→ZT sep one f l u=.ok a u'→GL Q a∧At s u'
 |0,_,_,_,_,_,_,_,_,_,h=>by simp [ZT]at h
 |f+1,l,s,u,a,u',hu,hl,hq,hn,h=>by
  simp only[ZT]at h
  split at h
  ·rename_i hc
   have b0:=Beh.adv hu hc hs
   obtain⟨x,u1,h2,h⟩:=bind_ok h
   have b1:=ht _ _ _ _ b0.at' h2
   have:=b0.lt;have:=b1.lt
   have q:=(h1 _ _ _ _ b0.at' hl h2).1
   exact Sf hs ht h1 f _ _ _ _ _ b1.at' hl (fun y hy=>by
    rcases fW.1 hy with hy|hy
    ·exact hq y hy
    ·simp only[dV]at hy;subst hy;exact q) (by simp only[cC,cQ];omega) h
  ·cases h;exact⟨⟨hq,by omega⟩,hu⟩
theorem Wn {sep:Bs}{one:Bs→Res α}(hs:sep≠[])(ht:Tk one)(h1:Gd Q one){f:Nat}:Gd (GL Q) (J2 sep one f):=fun s u a u' hu hl h=>by
 obtain⟨x,u1,h2,h⟩:=bind_ok h
 have b1:=ht _ _ _ _ hu h2
 have:=b1.lt;have:=hu.le
 have q:=(h1 _ _ _ _ hu hl h2).1
 exact Sf hs ht h1 f _ _ _ _ _ b1.at' hl (fun y hy=>by simp only[dV]at hy;subst hy;exact q) (by simp only[cQ];omega) h
theorem Uf:GL Q ([]:List α):=⟨fun _ h=>(by cases h),by simp⟩
theorem Sg {one:Bs→Res α}(ht:Tk one)(h1:Gd Q one){f:Nat}:Gd (GL Q) (Uc one f):=
 Jl (Jt (Zr Uf)) (Qj (Wn (by decide) ht h1) fun l hl=>Qj (Zo (by decide)) fun _ _=>Zr hl)
theorem Mm {one:Bs→Res α}(ht:Tk one)(h1:Gd Q one):∀f l s u a u',At s u→s.length≤20000→(∀x∈l,Q x)→l.length+u.length≤20000→ZU one f l u=.ok a u'→GL Q a∧At s u'
 |0,_,_,_,_,_,_,_,_,_,h=>by simp [ZU]at h
 |f+1,l,s,u,a,u',hu,hl,hq,hn,h=>by
  simp only[ZU]at h
  split at h
  ·cases h;exact⟨⟨hq,by omega⟩,hu.adv⟩
  ·obtain⟨x,u1,h2,h⟩:=bind_ok h
   have b1:=ht _ _ _ _ hu h2
   have:=b1.lt
   have q:=(h1 _ _ _ _ hu hl h2).1
   exact Mm ht h1 f _ _ _ _ _ b1.at' hl (fun y hy=>by
    rcases fW.1 hy with hy|hy
    ·exact hq y hy
    ·simp only[dV]at hy;subst hy;exact q) (by simp only[cC,cQ];omega) h
theorem Tz {w:Bs}(hw:w≠[]){one:Bs→Res α}(ht:Xv one)(h1:Gd Q one):∀f l s u a u',At s u→s.length≤20000→(∀x∈l,Q x)→l.length+u.length≤20000→JS w one f l u=.ok a u'→GL Q a∧At s u'
 |0,_,_,_,_,_,_,_,_,_,h=>by simp [JS]at h
 |f+1,l,s,u,a,u',hu,hl,hq,hn,h=>by
  simp only[JS]at h
  split at h
  ·rename_i hc
   have b0:=Beh.adv hu hc hw
   obtain⟨x,u1,h2,h⟩:=bind_ok h
   have b1:=ht _ _ _ _ b0.at' h2
   have:=b0.lt;have:=b1.le
   have q:=(h1 _ _ _ _ b0.at' hl h2).1
   exact Tz hw ht h1 f _ _ _ _ _ b1.at' hl (fun y hy=>by
    rcases fW.1 hy with hy|hy
    ·exact hq y hy
    ·simp only[dV]at hy;subst hy;exact q) (by simp only[cC,cQ];omega) h
  ·cases h;exact⟨⟨hq,by omega⟩,hu⟩
theorem OK {w:Bs}(hw:w≠[]){one:Bs→Res α}(ht:Xv one)(h1:Gd Q one){f:Nat}:Gd (GL Q) (JS w one f []):=fun s u a u' hu hs h=>
 Tz hw ht h1 f [] s u a u' hu hs (fun _ h=>(by cases h)) (by have:=hu.le;simp only[cL];omega) h
theorem P6 {one:Bs→Res α}(ht:Tk one)(h1:Gd Q one){f:Nat}:Gd (GL Q) (ZU one f []):=fun s u a u' hu hs h=>
 Mm ht h1 f [] s u a u' hu hs (fun _ h=>(by cases h)) (by have:=hu.le;simp only[cL];omega) h
end
def QE (x:Exp):Prop:=Jx x=true∧UA x
theorem Gk {l:List Exp}(h:∀x∈l,QE x):LJ l=true∧Ou l:=by
 refine⟨?_,?_⟩
 ·rw[Wz,cH];exact fun x hx=>(h x hx).1
 ·induction l with
  |nil=>trivial
  |cons a l ih=>exact⟨(h a (dO ..)).2,ih fun x hx=>h x (dI _ hx)⟩
theorem KC {k:Int}{n:Bs}{i:Int}{l:List Exp}(h:Vi k n i l.length=true)(hn:n.length<2^60)(hl:GL QE l):QE (.mk k n i l):=by
 obtain⟨h1,h2⟩:=Gk hl.1
 exact⟨by simp only[Jx,h,h1,fX],hn,by have:=hl.2;omega,h2⟩
theorem SR {n:Nat}{t:Bs}{k:Int}(h:VV n t=some k):5≤k∧k≤17:=by
 have hm:(t,k)∈Zq n:=by
  unfold VV at h
  have:∀l:List (Bs×Int),l.lookup t=some k→(t,k)∈l:=by
   intro l
   induction l with
   |nil=>intro h;cases h
   |cons p l ih=>
    intro h
    obtain⟨a,b⟩:=p
    rw[List.lookup_cons]at h
    split at h
    ·rename_i e
     simp only[beq_iff_eq]at e
     simp only[cA]at h
     subst e h;exact dO ..
    ·exact dI _ (ih h)
  exact this _ h
 have hn:n=1∨n=2∨n=3∨n=4∨n=5:=by
  match n,hm with
  |1,_=>simp
  |2,_=>simp
  |3,_=>simp
  |4,_=>simp
  |5,_=>simp
 rcases hn with rfl|rfl|rfl|rfl|rfl <;> simp only[Zq,dT,dL,or_false,cW]at hm <;> omega
theorem Rp {k:Int}(h:5≤k∧k≤17):Vi k [] 0 2=true:=by
 have e:ZN k=some (some 2):=by
  have h1:¬(k=1∨k=2):=by omega
  have h2:¬(k=3∨k=4):=by omega
  simp only[ZN,h1,h2,h,and_self,if_true,if_false]
 have e2:¬(k=2∨k=19):=by omega
 simp [Vi,e,e2,ZR]
theorem Sd {α:Type}{Q:α→Prop}{a:α}(h:Q a):GL Q [a]:=⟨fun x hx=>by simp only[dV]at hx;subst hx;exact h,by simp⟩
theorem CB {α:Type}{Q:α→Prop}{a b:α}(h:Q a)(h2:Q b):GL Q [a,b]:=⟨fun x hx=>by simp only[dT,dL,or_false]at hx;rcases hx with rfl|rfl <;> assumption,by simp⟩
theorem Nu {α:Type}{Q:α→Prop}{a b c:α}(h:Q a)(h2:Q b)(h3:Q c):GL Q [a,b,c]:=⟨fun x hx=>by simp only[dT,dL,or_false]at hx;rcases hx with rfl|rfl|rfl <;> assumption,by simp⟩
theorem Sa {n:Int}(h:ZR n=true):QE (.mk 1 [] n []):=KC (by simp [Vi,ZN,h]) (by simp) Uf
structure GdE (f:Nat):Prop where
 e:Gd QE (Z9 f)
 r:∀n,Gd QE (JI f n)
 l:∀n x,QE x→Gd QE (Ji f n x)
 u:Gd QE (ZE f)
 p:Gd QE (Yb f)
theorem gdE:∀f,GdE f
 |0=>⟨fun _ _ _ _ _ _ h=>by simp [Z9]at h,fun _ _ _ _ _ _ _ h=>by simp [JI]at h,fun _ _ _ _ _ _ _ _ _ h=>by simp [Ji]at h,fun _ _ _ _ _ _ h=>by simp [ZE]at h,fun _ _ _ _ _ _ h=>by simp [Yb]at h⟩
 |f+1=>by
  have ih:=gdE f
  have tk:=Of f
  refine⟨?_,?_,?_,?_,?_⟩
  ·have:Gd QE fun u=>(JI f 1 u).bind fun x u1=>if Qc u1=[63]then(Z9 f (adv u1)).bind fun a u2=>(Qw [58] u2).bind fun _ u3=>(Z9 f u3).bind fun b u4=>.ok (.mk 18 [] 0 [x,a,b]) u4 else .ok x u1:=
    Qj (ih.r 1) fun x hx=>Jl (Jt (Qj ih.e fun a ha=>Qj (Zo (by decide)) fun _ _=>Qj ih.e fun b hb=>Zr (KC (by rfl) (by simp) (Nu hx ha hb)))) (Zr hx)
   intro s u a u' hu hs h
   simp only[Z9]at h
   exact this _ _ _ _ hu hs h
  ·intro n s u a u' hu hs h
   simp only[JI]at h
   split at h
   ·exact ih.u _ _ _ _ hu hs h
   ·exact(Qj (ih.r (n+1)) fun x hx=>ih.l n x hx) _ _ _ _ hu hs h
  ·intro n x hx s u a u' hu hs h
   simp only[Ji]at h
   split at h
   ·cases h;exact⟨hx,hu⟩
   ·rename_i k hk
    obtain⟨y,u1,h1,h⟩:=bind_ok h
    obtain⟨hy,hu1⟩:=ih.r _ _ _ _ _ hu.adv hs h1
    have hq:QE (.mk k [] 0 [x,y]):=KC (Rp (SR hk)) (by simp) (CB hx hy)
    split at h
    ·cases h;exact⟨hq,hu1⟩
    ·exact ih.l _ _ hq _ _ _ _ hu1 hs h
  ·intro s u a u' hu hs h
   simp only[ZE]at h
   exact(Jl (c:=fun u=>Qc u=[33]) (Jt (Qj ih.u fun x hx=>Zr (KC (by rfl) (by simp) (Sd hx)))) (Jl (c:=fun u=>Qc u=Vv) (Jl (c:=fun u=>Y0 (adv u)=true) (Jt (Qj H6 fun n hn=>Zr (Sa hn)))
    (Jt (Qj ih.u fun x hx=>Zr (KC (by rfl) (by simp) (Sd hx))))) ih.p)) _ _ _ _ hu hs h
  ·intro s u a u' hu hs h
   simp only[Yb]at h
   exact(Jl (c:=fun u=>Y0 u=true) (Qj H6 fun n hn=>Zr (Sa hn)) (Jl (c:=fun u=>Qc u=[40]) (Jt (Qj ih.e fun x hx=>Qj (Zo (by decide)) fun _ _=>Zr hx))
    (Qj JO fun n hn=>Jl (c:=fun u=>Qc u=[40]) (Jt (Qj (Sg tk.e ih.e) fun l hl=>Zr (KC (by simp [Vi,ZN,ZR,hn]) (by have:=Qy hn;omega) hl)))
     (Zr (KC (by simp [Vi,ZN,ZR,hn]) (by have:=Qy hn;omega) Uf))))) _ _ _ _ hu hs h
theorem Iv {f:Nat}:Gd QE (Z9 f):=(gdE f).e
def QS (x:Stmt):Prop:=Uz x=true∧Wp x
theorem Hv {l:List Stmt}(h:∀x∈l,QS x):Xw l=true∧Xx l:=by
 induction l with
 |nil=>exact⟨rfl,trivial⟩
 |cons a l ih=>
  obtain⟨h1,h2⟩:=ih fun x hx=>h x (dI _ hx)
  obtain⟨h3,h4⟩:=h a (dO ..)
  exact⟨by simp only[Xw,h3,h1,fX],h4,h2⟩
theorem OW {k:Int}{n:Bs}{v:Exp}{b e:List Stmt}(h:Kw k n b.length e.length=true)(hn:n.length<2^60)(hv:QE v)(hb:GL QS b)(he:GL QS e):QS (.mk k n v b e):=by
 obtain⟨h1,h2⟩:=Hv hb.1
 obtain⟨h3,h4⟩:=Hv he.1
 exact⟨by simp only[Uz,h,h1,h3,hv.1,fX],hn,hv.2,by have:=hb.2;omega,by have:=he.2;omega,h2,h4⟩
structure GdS (f:Nat):Prop where
 b:Gd (GL QS) (J4 f)
 s:Gd QS (Jc f)
theorem Se {f:Nat}{k:Int}(hk:k=1∨k=2):Gd QS fun u=>(Zb u).bind fun n u1=>(Qw [61] u1).bind fun _ u2=>(Z9 f u2).bind fun x u3=>(Qw [59] u3).bind fun _ u4=>.ok (Stmt.mk k n x [] []) u4:=
 Qj JO fun n hn=>Qj (Zo (by decide)) fun _ _=>Qj Iv fun x hx=>Qj (Zo (by decide)) fun _ _=>Zr (OW (by rcases hk with rfl|rfl <;> simp [Kw,hn]) (by have:=Qy hn;omega) hx Uf Uf)
theorem gdS:∀f,GdS f
 |0=>⟨fun _ _ _ _ _ _ h=>by simp [J4]at h,fun _ _ _ _ _ _ h=>by simp [Jc]at h⟩
 |f+1=>by
  have ih:=gdS f
  have tk:=OR f
  refine⟨?_,?_⟩
  ·intro s u a u' hu hs h
   simp only[J4]at h
   exact(Qj (Zo (by decide)) fun _ _=>P6 tk.s ih.s) _ _ _ _ hu hs h
  ·intro s u a u' hu hs h
   simp only[Jc]at h
   exact(Jl (c:=fun u=>Qc u=YA) (Jt (Qj (Zo (by decide)) fun _ _=>Qj Iv fun x hx=>Qj (Zo (by decide)) fun _ _=>Qj ih.b fun b hb=>
    Jl (c:=fun u=>Qc u=IW) (Jt (Qj ih.b fun e he=>Zr (OW (by simp [Kw]) (by simp) hx hb he))) (Zr (OW (by simp [Kw]) (by simp) hx hb Uf))))
    (Jl (c:=fun u=>Qc u=VS) (Jt (Qj (Zo (by decide)) fun _ _=>Qj Iv fun x hx=>Qj (Zo (by decide)) fun _ _=>Qj ih.b fun b hb=>Zr (OW (by simp [Kw]) (by simp) hx hb Uf)))
    (Jl (c:=fun u=>Qc u=Wj) (Jt (Qj Iv fun x hx=>Qj (Zo (by decide)) fun _ _=>Zr (OW (by simp [Kw]) (by simp) hx Uf Uf)))
    (Jl (c:=fun u=>Qc u=UY) (Jt (Se (.inl rfl))) (Se (.inr rfl)))))) _ _ _ _ hu hs h
def QF (f:Func):Prop:=(Qk f.name&&f.params.all Qk&&Xw f.body)=true∧I9 f
theorem F8 {f:Nat}:Gd QF (V4 f):=
 Qj (Zo (by decide)) fun _ _=>Qj JO fun n hn=>Qj (Zo (by decide)) fun _ _=>Qj (Sg QM JO) fun ps hps=>Qj (gdS f).b fun b hb=>Zr (by
  obtain⟨h1,h2⟩:=Hv hb.1
  refine⟨?_,?_,?_,?_,?_,h2⟩
  ·simp only[hn,h1,dB,dC,cH];exact hps.1
  ·have:=Qy hn;show n.length<_;omega
  ·have:=hps.2;show ps.length<_;omega
  ·intro p hp;have:=Qy (hps.1 p hp);omega
  ·have:=hb.2;show b.length<_;omega)
def QT (t:Test):Prop:=Vr t=true
theorem F6:Gd (fun l=>(∀x∈l,QT x)∧l.length≤2) KD:=Qj JO fun n hn=>
 have h1:∀(a b:Bool) (c:Int),ZR c=true→(∀x∈[(⟨n,a,b,c⟩:Test)],QT x)∧[(⟨n,a,b,c⟩:Test)].length≤2:=fun a b c hc=>⟨fun x hx=>by simp only[dV]at hx;subst hx;simp [QT,Vr,hn,hc],by simp⟩
 Jl (c:=fun u=>Qc u=[60]) (Jt (Qj VW fun c hc=>Zr (h1 _ _ c hc))) (Jl (c:=fun u=>Qc u=[60,61]) (Jt (Qj VW fun c hc=>Zr (h1 _ _ c hc))) (Jl (c:=fun u=>Qc u=[62]) (Jt (Qj VW fun c hc=>Zr (h1 _ _ c hc)))
  (Jl (c:=fun u=>Qc u=[62,61]) (Jt (Qj VW fun c hc=>Zr (h1 _ _ c hc))) (Jl (c:=fun u=>Qc u=[61,61]) (Jt (Qj VW fun c hc=>Zr ⟨fun x hx=>by simp only[dT,dL,or_false]at hx;rcases hx with rfl|rfl <;> simp [QT,Vr,hn,hc],by simp⟩)) CE))))
theorem Mq {α:Type}{k:Nat}:∀{l:List (List α)},(∀x∈l,x.length≤k)→l.flatten.length≤l.length*k
 |[],_=>by simp
 |x::l,h=>by
  have h1:=h x (dO ..)
  have h2:=Mq fun y hy=>h y (dI x hy)
  simp only[List.flatten_cons,cC,cE,Nat.add_mul];omega
def RO (l:List Test):Prop:=(∀x∈l,QT x)∧l.length<2^60
theorem Mn {f:Nat}:Gd RO (XU f):=Qj (Wn (by decide) O2 F6) fun l hl=>Zr (by
 refine⟨fun x hx=> ?_,?_⟩
 ·obtain⟨y,hy,hx⟩:=List.mem_flatten.1 hx
  exact(hl.1 y hy).1 x hx
 ·have:=Mq fun x hx=>(hl.1 x hx).2
  have:=hl.2;omega)
theorem NS {l:List Test}(h:RO l):∀t∈l,t.clock.length<2^60:=fun t ht=>by
 have:=h.1 t ht
 simp only[QT,Vr,cD]at this
 have:=Qy this.1;omega
theorem S9 {l:List Test}(h:RO l):l.all Vr=true:=cH.2 h.1
def QL (l:Loc):Prop:=Vo l=true∧ltL l
theorem Bh:Gd (fun k=>0≤k∧k≤2) Uh:=Jl (c:=fun u=>Qc u=ZO) (Jt (Zr (by omega))) (Jl (c:=fun u=>Qc u=Vj) (Jt (Zr (by omega))) (Zr (by omega)))
theorem CD {f:Nat}:Gd QL (If f):=Qj JO fun n hn=>Qj Bh fun k hk=>Qj (Xo (Q:=RO) ⟨fun _ h=>(by cases h),by simp⟩ Mn) fun i hi=>Qj (Xo (Q:=fun n=>ZR n=true) rfl VW) fun r hr=>Qj (Zo (by decide)) fun _ _=>Zr
 ⟨by simp only[Vo,hn,hk,S9 hi,hr,and_self,decide_true,fX],by have:=Qy hn;show n.length<_;omega,hi.2,NS hi⟩
def QX (x:Exp):Prop:=(isNone x||Jx x)=true∧I8 x
theorem TA {f:Nat}:Gd (fun x=>QE x∧I8 x) (Z9 f):=fun s u a u' hu hs h=>by
 obtain⟨h1,h2⟩:=Iv _ _ _ _ hu hs h
 have hw:=Ik _ _ _ _ hu h
 have:=hu.le
 simp only[YG]at hw
 exact⟨⟨h1,h1.2,by omega⟩,h2⟩
theorem Fb {f:Nat}:Gd QX (Z9 f):=fun s u a u' hu hs h=>by
 obtain⟨⟨h1,h2⟩,h3⟩:=TA _ _ _ _ hu hs h
 exact⟨⟨by rw[h1.1,dQ],h2⟩,h3⟩
theorem Gj:QX JC:=⟨rfl,⟨by decide,by decide,trivial⟩,by decide⟩
def QA (a:Assign):Prop:=(Qk a.name&&Jx a.val)=true∧a.name.length<2^60∧I8 a.val
theorem P7 {f:Nat}:Gd QA (Xz f):=Qj JO fun n hn=>Qj (Zo (by decide)) fun _ _=>Qj TA fun x hx=>Zr
 ⟨by simp only[hn,hx.1.1,fX],by have:=Qy hn;show n.length<_;omega,hx.2⟩
def QC (c:Clear):Prop:=(Qk c.clock&&ZR c.tv)=true
theorem Ny:Gd QC Wx:=Qj JO fun n hn=>Qj (Zo (by decide)) fun _ _=>Qj VW fun x hx=>Zr (by simp only[QC,hn,hx,fX])
def QN (c:Bs×Bool):Prop:=(c.1.isEmpty=true∧c.2=false)∨Qk c.1=true
theorem Fc:Gd QN OX:=Qj JO fun n hn=>Jl (c:=fun u=>Qc u=[33]) (Jt (Zr (.inr hn))) (Qj (Zo (by decide)) fun _ _=>Zr (.inr hn))
def QD (x:Edge):Prop:=Yi x=true∧K2 x
theorem F9 {f:Nat}:Gd QD (WQ f):=
 Qj JO fun a ha=>Qj (Zo (by decide)) fun _ _=>Qj JO fun b hb=>Qj (Xo (Q:=RO) ⟨fun _ h=>(by cases h),by simp⟩ Mn) fun ts hts=>Qj (Xo Gj Fb) fun c hc=>
 Qj (Xo (.inl ⟨rfl,rfl⟩) Fc) fun ch hch=>Qj (Xo Uf (Wn (by decide) WU P7)) fun ss hss=>Qj (Xo Uf (Wn (by decide) KF Ny)) fun cs hcs=>
 Qj (Xo (Q:=fun n=>ZR n=true) rfl VW) fun co hco=>Qj (Xo (Q:=fun n=>ZR n=true) rfl VW) fun k hk=>Qj (Zo (by decide)) fun _ _=>Zr (by
  have h1:ss.all (fun a=>Qk a.name&&Jx a.val)=true:=cH.2 fun x hx=>(hss.1 x hx).1
  have h2:cs.all (fun c=>Qk c.clock&&ZR c.tv)=true:=cH.2 fun x hx=>hcs.1 x hx
  have h3:((!ch.1.isEmpty|| !ch.2)&&(ch.1.isEmpty||Qk ch.1))=true:=by
   rcases hch with⟨e1,e2⟩|e
   ·simp [e1,e2]
   ·have:ch.1.isEmpty=false:=by cases hc:ch.1 with
     |nil=>rw[hc]at e;cases e
     |cons a b=>rfl
    simp [e,this]
  refine⟨?_,?_,?_,hts.2,NS hts,hc.2,?_,?_,?_,?_,?_⟩
  ·simp only[Yi,ha,hb,S9 hts,hc.1,h1,h2,hco,hk,dC,dB];simpa using h3
  ·have:=Qy ha;show a.length<_;omega
  ·have:=Qy hb;show b.length<_;omega
  ·show ch.1.length<_
   rcases hch with⟨e1,_⟩|e
   ·rw[List.isEmpty_iff]at e1;rw[e1];decide
   ·have:=Qy e;omega
  ·have:=hss.2;show ss.length<_;omega
  ·intro x hx;exact(hss.1 x hx).2
  ·have:=hcs.2;show cs.length<_;omega
  ·intro x hx
   have:=hcs.1 x hx
   simp only[QC,cD]at this
   have:=Qy this.1;omega)
def QP (p:Proc):Prop:=YE p=true∧T8 p
theorem F7 {f:Nat}:Gd QP (WP f):=
 Qj JO fun n hn=>Qj (Zo (by decide)) fun _ _=>Qj JO fun i hi=>Qj (Zo (by decide)) fun _ _=>Qj (OK (by decide) RX.tk0 CD) fun ls hls=>
 Qj (OK (by decide) Tj.tk0 F9) fun es hes=>Qj (Zo (by decide)) fun _ _=>Zr (by
  have h1:ls.all Vo=true:=cH.2 fun x hx=>(hls.1 x hx).1
  have h2:es.all Yi=true:=cH.2 fun x hx=>(hes.1 x hx).1
  refine⟨by simp only[YE,hn,hi,h1,h2,fX],?_,?_,?_,fun x hx=>(hls.1 x hx).2,?_,fun x hx=>(hes.1 x hx).2⟩
  ·have:=Qy hn;show n.length<_;omega
  ·have:=Qy hi;show i.length<_;omega
  ·have:=hls.2;show ls.length<_;omega
  ·have:=hes.2;show es.length<_;omega)
theorem CC:Gd (fun v=>W5 v=true) Ie:=
 Qj JO fun n hn=>Qj (Zo (by decide)) fun _ _=>Qj VW fun lo hlo=>Qj (Zo (by decide)) fun _ _=>Qj VW fun hi hhi=>Qj (Zo (by decide)) fun _ _=>Qj VW fun i hi=>Zr (by simp only[W5,hn,hlo,hhi,hi,fX])
theorem KL {f:Nat}{b g:Bool}:Gd (GL fun c:Chan=>Qk c.name=true) (ZF f b g):=Qj (Wn (by decide) QM JO) fun l hl=>Zr ⟨fun c hc=>by
 obtain⟨n,hn,rfl⟩:=List.mem_map.1 hc
 exact hl.1 n hn,by rw[lG];exact hl.2⟩
def I3 (k:Nat)(d:Decls):Prop:=(∀c∈d.clocks,Qk c=true)∧(∀v∈d.vars,W5 v=true)∧(∀c∈d.chans,Qk c.name=true)∧d.clocks.length≤k*20000∧d.vars.length≤k*20000∧d.chans.length≤k*20000
theorem F5 {k:Nat}{a b:Decls}(ha:I3 k a)(hb:I3 1 b):I3 (k+1) (a.add b):=by
 obtain⟨a1,a2,a3,a4,a5,a6⟩:=ha
 obtain⟨b1,b2,b3,b4,b5,b6⟩:=hb
 refine⟨fun x hx=> ?_,fun x hx=> ?_,fun x hx=> ?_,?_,?_,?_⟩
 ·exact(fW.1 hx).elim (a1 x) (b1 x)
 ·exact(fW.1 hx).elim (a2 x) (b2 x)
 ·exact(fW.1 hx).elim (a3 x) (b3 x)
 ·show(a.clocks++b.clocks).length≤_;rw[cC];omega
 ·show(a.vars++b.vars).length≤_;rw[cC];omega
 ·show(a.chans++b.chans).length≤_;rw[cC];omega
theorem Bg {l:List Bs}(h:GL (fun n=>Qk n=true) l):I3 1 ⟨l,[],[]⟩:=⟨h.1,fun _ h=>(by cases h),fun _ h=>(by cases h),by have:=h.2;simpa using this,by simp,by simp⟩
theorem Bf {v:Var}(h:W5 v=true):I3 1 ⟨[],[v],[]⟩:=⟨fun _ h=>(by cases h),fun x hx=>by simp only[dV]at hx;subst hx;exact h,fun _ h=>(by cases h),by simp,by simp,by simp⟩
theorem LD {l:List Chan}(h:GL (fun c:Chan=>Qk c.name=true) l):I3 1 ⟨[],[],l⟩:=⟨fun _ h=>(by cases h),fun _ h=>(by cases h),h.1,by simp,by simp,by have:=h.2;simpa using this⟩
theorem Fa {N:Nat}{s u u1:Bs}{x:Decls}(hu:At s u)(hs:s.length≤20000)(h:Wb N u=some (.ok x u1)):I3 1 x∧Beq s u u1:=by
 have key:∀{p:Bs→Res Decls} {w:Bs},Xv p→Gd (I3 1) p→Qc u=w→w≠[]→p (adv u)=.ok x u1→I3 1 x∧Beq s u u1:=fun ht hg hc hw e=>by
  have b0:=Beh.adv hu hc hw
  exact⟨(hg _ _ _ _ b0.at' hs e).1,(b0.trans (ht _ _ _ _ b0.at' e)).beq⟩
 unfold Wb at h
 split at h
 ·rename_i hc
  exact key (p:=fun u=>(J2 [44] Zb N u).bind fun l u1=>.ok ⟨l,[],[]⟩ u1) (QZ (Va (by decide) QM).tk0 fun _=>Vh) (Qj (Wn (by decide) QM JO) fun l hl=>Zr (Bg hl)) hc (by decide) (lE h)
 split at h
 ·rename_i hc
  exact key (p:=fun u=>(Ie u).bind fun v u1=>.ok ⟨[],[v],[]⟩ u1) (QZ RU.tk0 fun _=>Vh) (Qj CC fun l hl=>Zr (Bf hl)) hc (by decide) (lE h)
 split at h
 ·rename_i hc
  exact key (p:=fun u=>(ZF N false false u).bind fun l u1=>.ok ⟨[],[],l⟩ u1) (QZ PE.tk0 fun _=>Vh) (Qj KL fun l hl=>Zr (LD hl)) hc (by decide) (lE h)
 split at h
 ·rename_i hc
  exact key (p:=fun u=>(Qw Jy u).bind fun _ u1=>(ZF N false true u1).bind fun l u2=>.ok ⟨[],[],l⟩ u2) (QZ (Qm (by decide)).tk0 fun _=>QZ PE.tk0 fun _=>Vh) (Qj (Zo (by decide)) fun _ _=>Qj KL fun l hl=>Zr (LD hl)) hc (by decide) (lE h)
 split at h
 ·rename_i hc
  have h:=lE h
  split at h
  ·rename_i hc2
   have b0:=Beh.adv hu hc (by decide)
   have b1:=Beh.adv b0.at' hc2 (by decide)
   have ht:Xv fun u=>(Qw Jy u).bind fun _ u1=>(ZF N true true u1).bind fun l u2=>(.ok ⟨[],[],l⟩ u2:Res Decls):=QZ (Qm (by decide)).tk0 fun _=>QZ PE.tk0 fun _=>Vh
   have hg:Gd (I3 1) fun u=>(Qw Jy u).bind fun _ u1=>(ZF N true true u1).bind fun l u2=>(.ok ⟨[],[],l⟩ u2:Res Decls):=Qj (Zo (by decide)) fun _ _=>Qj KL fun l hl=>Zr (LD hl)
   exact⟨(hg _ _ _ _ b1.at' hs h).1,((b0.trans b1.beq).trans (ht _ _ _ _ b1.at' h)).beq⟩
  ·exact key (p:=fun u=>(Qw Jy u).bind fun _ u1=>(ZF N true false u1).bind fun l u2=>.ok ⟨[],[],l⟩ u2) (QZ (Qm (by decide)).tk0 fun _=>QZ PE.tk0 fun _=>Vh) (Qj (Zo (by decide)) fun _ _=>Qj KL fun l hl=>Zr (LD hl)) hc (by decide) h
 ·cases h
theorem Mp {N:Nat}:∀f k d s u a u',At s u→s.length≤20000→I3 k d→k+u.length≤20000→Je N f d u=.ok a u'→I3 20000 a∧At s u'
 |0,_,_,_,_,_,_,_,_,_,_,h=>by simp [Je]at h
 |f+1,k,d,s,u,a,u',hu,hs,hd,hn,h=>by
  simp only[Je]at h
  split at h
  ·cases h
   obtain⟨a1,a2,a3,a4,a5,a6⟩:=hd
   have:k*20000≤20000*20000:=fF _ (by omega)
   exact⟨⟨a1,a2,a3,fI a4 this,fI a5 this,fI a6 this⟩,hu⟩
  ·rename_i r hr
   obtain⟨x,u1,h1,hh⟩:=bind_ok h
   obtain⟨_,u2,h2,hh⟩:=bind_ok hh
   subst h1
   obtain⟨g,b⟩:=Fa hu hs hr
   have b2:=Qm (by decide) _ _ _ _ b.at' h2
   have:=b.le;have:=b2.lt
   exact Mp f (k+1) _ _ _ _ _ b2.at' hs (F5 hd g) (by omega) hh
theorem Mo {N:Nat}:∀f l s u a u',At s u→s.length≤20000→(∀x∈l,QF x)→l.length+u.length≤20000→ZS Ot l+u.length≤20000→Xm N f l u=.ok a u'→(∀x∈a,QF x)∧a.length≤20000∧ZS Ot a≤20000∧At s u'
 |0,_,_,_,_,_,_,_,_,_,_,h=>by simp [Xm]at h
 |f+1,l,s,u,a,u',hu,hs,hq,hn,hw,h=>by
  simp only[Xm]at h
  split at h
  ·obtain⟨x,u1,h2,h⟩:=bind_ok h
   have b1:=Hs _ _ _ _ hu h2
   have:=b1.lt
   have:=Td _ _ _ _ hu h2
   have q:=(F8 _ _ _ _ hu hs h2).1
   exact Mo f _ _ _ _ _ b1.at' hs (fun y hy=>by
    rcases fW.1 hy with hy|hy
    ·exact hq y hy
    ·simp only[dV]at hy;subst hy;exact q) (by simp only[cC,cQ];omega) (by rw[OD,KG];omega) h
  ·cases h;exact⟨hq,by omega,by omega,hu⟩
theorem KO:∀(l:List Stmt) (m:Siz),(Zn m l).nodes=m.nodes+ZS JZ l
 |[],m=>rfl
 |x::l,m=>by
  show(Zn (m.bes (ZX x)) l).nodes=_
  rw[KO l,Jp]
  simp only[Siz.bes,JZ];omega
theorem M3:∀(l:List Func) (m:Siz),(ZJ m l).nodes≤m.nodes+ZS Ot l
 |[],m=>fG _
 |x::l,m=>by
  show(ZJ (Zn m x.body) l).nodes≤_
  have:=M3 l (Zn m x.body)
  rw[KO]at this
  rw[Jp];simp only[Ot];omega
theorem Nv {N:Nat}:Gd (fun m=>Kd m=true∧LtM m) (Kh N):=fun s u a u' hu hs h=>by
 unfold Kh at h
 obtain⟨_,u1,h1,h⟩:=bind_ok h
 obtain⟨n,u2,h2,h⟩:=bind_ok h
 obtain⟨_,u3,h3,h⟩:=bind_ok h
 obtain⟨d,u4,h4,h⟩:=bind_ok h
 obtain⟨fs,u5,h5,h⟩:=bind_ok h
 obtain⟨ps,u6,h6,h⟩:=bind_ok h
 have b1:=(Zo (by decide) _ _ _ _ hu hs h1).2
 obtain⟨hn,b2⟩:=JO _ _ _ _ b1 hs h2
 have b3:=(Zo (by decide) _ _ _ _ b2 hs h3).2
 obtain⟨hd,b4⟩:=Mp N 0 _ _ _ _ _ b3 hs ⟨fun _ h=>(by cases h),fun _ h=>(by cases h),fun _ h=>(by cases h),by simp,by simp,by simp⟩ (by have:=b3.le;omega) h4
 obtain⟨hf1,hf2,hf3,b5⟩:=Mo N [] _ _ _ _ b4 hs (fun _ h=>(by cases h)) (by have:=b4.le;simp only[cL];omega) (by have:=b4.le;rw[Jd];omega) h5
 obtain⟨hp,b6⟩:=OK (by decide) G9.tk0 F7 _ _ _ _ b5 hs h6
 split at h
 ·cases h
  obtain⟨d1,d2,d3,d4,d5,d6⟩:=hd
  refine⟨⟨?_,?_⟩,b6⟩
  ·have e1:d.clocks.all Qk=true:=cH.2 d1
   have e2:d.vars.all W5=true:=cH.2 d2
   have e3:d.chans.all OQ=true:=cH.2 d3
   have e4:UV fs=true:=cH.2 fun x hx=>(hf1 x hx).1
   have e5:ps.all YE=true:=cH.2 fun x hx=>(hp.1 x hx).1
   simp only[Kd,hn,e1,e2,e3,e4,e5,fX]
  ·refine⟨?_,?_,fun c hc=> ?_,?_,fun v hv=> ?_,?_,fun c hc=> ?_,?_,fun f hf=>(hf1 f hf).2,?_,?_,fun p hp'=>(hp.1 p hp').2⟩
   ·have:=Qy hn;show n.length<_;omega
   ·show d.clocks.length<_;omega
   ·have:=Qy (d1 c hc);omega
   ·show d.vars.length<_;omega
   ·have:=d2 v hv
    simp only[W5,cD]at this
    have:=Qy this.1;omega
   ·show d.chans.length<_;omega
   ·have:=Qy (d3 c hc);omega
   ·show fs.length<_;omega
   ·have:=M3 fs ⟨0,0,false⟩
    simp only at this
    show(ZJ ⟨0,0,false⟩ fs).nodes<_;omega
   ·have:=hp.2;show ps.length<_;omega
 ·cases h
def Siz.le (m n:Siz):Prop:=m.nodes≤n.nodes∧m.depth≤n.depth∧(m.wide=true→n.wide=true)
theorem Siz.le_refl (m:Siz):m.le m:=⟨fG _,fG _,id⟩
theorem Siz.le.trans {a b c:Siz}(h:a.le b)(k:b.le c):a.le c:=⟨fI h.1 k.1,fI h.2.1 k.2.1,fun x=>k.2.2 (h.2.2 x)⟩
theorem Siz.le.small {m n:Siz}(h:m.le n)(hn:n.small=true):m.small=true:=by
 obtain⟨h1,h2,h3⟩:=h
 simp only[Siz.small,cD,dZ,Bool.not_eq_true']at hn⊢
 refine⟨⟨by omega,by omega⟩,?_⟩
 cases hm:m.wide with
 |false=>rfl
 |true=>rw[h3 hm]at hn;exact absurd hn.2 (by simp)
theorem NM {a b n:Siz}(h:a.le b):(a.bes n).le (b.bes n):=by
 obtain⟨h1,h2,h3⟩:=h
 refine⟨?_,?_,?_⟩
 ·simp only[Siz.bes];omega
 ·simp only[Siz.bes];omega
 ·simp only[Siz.bes,lA];exact fun h=>h.imp h3 id
theorem Cm (a n:Siz):a.le (a.bes n):=by
 refine⟨?_,?_,?_⟩
 ·simp only[Siz.bes];omega
 ·simp only[Siz.bes];omega
 ·simp only[Siz.bes,lA];exact .inl
theorem H8:∀(l:List Stmt) {a b:Siz},a.le b→(Zn a l).le (Zn b l)
 |[],_,_,h=>h
 |x::l,_,_,h=>H8 l (NM h)
theorem Mh:∀(l:List Stmt) (a:Siz),a.le (Zn a l)
 |[],a=>Siz.le_refl a
 |x::l,a=>(Cm a _).trans (Mh l _)
theorem Mi:∀(l:List Func) (a:Siz),a.le (ZJ a l)
 |[],a=>Siz.le_refl a
 |x::l,a=>(Mh x.body a).trans (Mi l _)
theorem zero_le (a:Siz):Siz.le ⟨0,0,false⟩ a:=⟨lO _,lO _,fun h=>by cases h⟩
theorem M4:∀(l:List Func) (a:Siz) {f:Func},f∈l→(ZJ ⟨0,0,false⟩ [f]).le (ZJ a l)
 |x::l,a,f,h=>by
  rcases dT.1 h with rfl|h
  ·exact(H8 f.body (zero_le a)).trans (Mi l _)
  ·exact M4 l _ h
theorem MJ {l:List Func}(h:Jr l=true){f:Func}(hf:f∈l):QW f=true:=by
 simp only[Jr,QW,cD,cH,dZ]at h⊢
 exact⟨⟨fun x hx=>by simp only[dV]at hx;subst hx;exact h.1.1 x hf,(M4 l _ hf).small h.1.2⟩,by simp⟩
theorem Rj {x:Exp}(h:isNone x=true):ZL x=true:=by
 obtain⟨k,n,i,xs⟩:=x
 simp only[isNone,cD]at h
 have:xs=[]:=List.isEmpty_iff.1 h.2
 subst this
 rfl
theorem Fd {m:Model}(h:UH m=true):KA m=false:=by
 simp only[UH,cD]at h
 have h1:m.funcs.any (fun f=> !QW f)=false:=by
  rw[fM]
  intro f hf
  rw[MJ h.1.1.2 hf];simp
 have h2:m.procs.any YH=false:=by
  rw[fM]
  intro p hp
  have hp:=cH.1 h.2 p hp
  simp only[X5,cD]at hp
  simp only[YH,cP,fM]
  intro x hx
  have hx:=cH.1 hp.2 x hx
  simp only[Uw,cD,lA]at hx
  have e1:ZL x.cond=true:=hx.1.1.1.2.elim Rj id
  simp only[Jj,ZI,e1,cM,cZ,fM,cP]
  intro a ha
  simp only[Yh,ZI,cH.1 hx.1.2 a ha,cM]
 rw[KA,h1,h2];rfl
theorem NH {x:Edge}(h:Jj x=false):Wd x=x:=by
 simp only[Jj,Bool.or_eq_false_iff,fM]at h
 have e1:X0 x.cond=x.cond:=by
  have:ZL x.cond=true:=by simpa[ZI]using h.1
  simp [X0,this]
 have e2:x.sets.map Kz=x.sets:=by
  conv=>rhs;rw[←List.map_id x.sets]
  refine List.map_congr_left fun a ha=> ?_
  have:ZL a.val=true:=by simpa[Yh,ZI]using h.2 a ha
  simp [Kz,X0,this]
 simp only[Wd,e1,e2]
theorem Fk {p:Proc}(h:YH p=false):Ws p=p:=by
 simp only[YH,fM]at h
 have e2:p.edges.map Wd=p.edges:=by
  conv=>rhs;rw[←List.map_id p.edges]
  exact List.map_congr_left fun a ha=>NH (by simpa using h a ha)
 simp only[Ws,e2]
theorem Nr {m:Model}(h:KA m=false):IY m=m:=by
 simp only[KA,Bool.or_eq_false_iff,fM]at h
 have:m.funcs.filter QW=m.funcs:=List.filter_eq_self.2 fun f hf=>by simpa using h.1 f hf
 simp only[IY,this]
theorem PS {m:Model}(h:KA m=false):Qr 4 (fun p=>(Ws p).cells) m.procs=Qr 4 Proc.cells m.procs:=by
 simp only[KA,Bool.or_eq_false_iff,fM]at h
 simp only[Qr]
 congr 1
 have:∀l:List Proc,(∀p∈l,YH p=false)→l.flatMap (fun p=>(Ws p).cells)=l.flatMap Proc.cells:=by
  intro l
  induction l with
  |nil=>intro _;rfl
  |cons a l ih=>intro h;rw[dD,dD,ih fun p hp=>h p (dI _ hp),Fk (h a (dO ..))]
 exact this _ fun p hp=>by simpa using h.2 p hp
def Ip (N:Nat)(s:Bs):Model×Int×Int:=
 if 20000<s.length then(I0,0,3)else match Kh N (skip s)with
  | .ok m _=>if UH m then(m,0,0)else(I0,0,3)
  | .bad u=>(I0,(s.length - u.length:Nat),80)
def Tt (r:Model×Int×Int):AV:=.tuple [.agg r.1.cells,i64 r.2.1,i64 r.2.2]
theorem XI {P:Program}{G:Nat→Option (List AV)}{pn:Option AV}{A:Q2}{K:Option AV→Q2→Prop}:US P G [] pn A K=K pn A:=propext Iff.rfl
theorem QQ.trans {A B C:Q2}(h:QQ A B)(k:QQ B C):QQ A C:=fun x=>by
 rcases k x with k1|⟨k1,k2⟩
 ·rw[k1];exact h x
 ·exact .inr ⟨h.gone k1,fun es he j l e hj=>k2 es he j l e (h.keep hj)⟩
section
variable (G:Nat→Option (List AV))
theorem n22 {A:Q2}{a b e:Nat}{s u:Bs}{va:List AV}{vb ve:AV}(ha:A a=some (.cells va))(hva:va.length=6)(hb:A b=some (.cells [vb]))(he:A e=some (.cells [ve]))(hab:a≠b)(hae:a≠e)(hbe:b≠e):
 W3 Tryz.prog G 22 [.ptr a 0,.ptr b 0,.ptr e 0] (some (Vu 59 s u)) A (fun pn A'=>pn=none∧A'=((A.upd a (some (.cells [.str [],.raw (.slice none 0 0),.raw (.slice none 0 0),.raw (.slice none 0 0),.raw (.slice none 0 0),.raw (.slice none 0 0)]))).upd b (some (.cells [i64 (s.length - u.length:Nat)]))).upd e (some (.cells [i64 80]))):=by
 obtain⟨v1,v2,v3,v4,v5,v6,rfl⟩:∃v1 v2 v3 v4 v5 v6,va=[v1,v2,v3,v4,v5,v6]:=by
  match va,hva with
  |[v1,v2,v3,v4,v5,v6],_=>exact⟨_,_,_,_,_,_,rfl⟩
 refine KM l22 (fE rfl) ?_
 simp only[L22,UB,HI,Vu,Q1,seval]
 intro t ht
 have hta:=Q6 ha ht
 have htb:=Q6 hb ht
 have hte:=Q6 he ht
 simp only[UB,Q5 hta,Q5 htb,Q5 hte,Q5 hta.symm,Q5 htb.symm,Q5 hab.symm,Q5 hae.symm,Q5 hbe.symm,ha,hb,he,QK,Q1,seval]
 refine⟨_,UJ fun k=> ?_,rfl⟩
 by_cases h1:k=e
 ·subst h1;exact .inl (by rw[Q0,Q0])
 by_cases h2:k=b
 ·subst h2;exact .inl (by rw[Q5 h1,Q5 h1,Q0,Q0])
 by_cases h4:k=a
 ·subst h4;exact .inl (by rw[Q5 h1,Q5 h2,Q5 h1,Q5 h2,Q0,Q0])
 by_cases h3:k=t
 ·subst h3;exact .inr ⟨by simp only[Q2.upd,h1,h2,h4,if_false];exact ht,by simp [Q2.upd,h1,h2,h4]⟩
 ·exact .inl (by simp only[Q2.upd,h1,h2,h3,h4,if_false])
theorem Pk {A:Q2}{a b e:Nat}:W3 Tryz.prog G 22 [.ptr a 0,.ptr b 0,.ptr e 0] none A (fun pn A'=>pn=none∧A'=A):=by
 refine KM l22 (fE rfl) ?_
 simp only[L22,UB,HI,Q1,seval]
 exact⟨_,Ve.refl _,rfl⟩
theorem Kg:Wk (.agg [.str [],.raw (.slice none 0 0),.raw (.slice none 0 0),.raw (.slice none 0 0),.raw (.slice none 0 0),.raw (.slice none 0 0)]) (.agg I0.cells):=
 JG (.cons (Wk.refl _) (.cons ZY (.cons ZY (.cons ZY (.cons ZY (.cons ZY .nil))))))
theorem n9 (hG:Gl G){N:Nat}{A:Q2}{s:Bs}(hN:10*s.length+11≤N):Qz Tryz.prog G 9 [.str s] A (Tt (Ip N s)) A:=by
 refine Q4 l9 (fE rfl) ?_
 simp only[C9,Q1,seval]
 intro a ha b hb e he
 obtain⟨hba,hb⟩:=Q8 hb
 obtain⟨heb,he⟩:=Q8 he
 obtain⟨hea,he⟩:=Q8 he
 have nab:=hba.symm;have nae:=hea.symm;have nbe:=heb.symm
 refine⟨fun hl=> ?_,fun hl=> ?_⟩
 ·have hl':20000<s.length:=by omega
  simp only[Q5 hba,Q5 hea,Q5 heb,Q5 nab,Q5 nae,Q5 nbe,UB,XI,Q1,seval]
  rw[Ip,fC hl']
  exact Y3 (VM Kg) (by repeat(first|exact QQ.refl _|refine QQ.set ?_ (by assumption) (by simp [rk,Jh,rd,Zs])))
 ·have hl':¬20000<s.length:=by omega
  rw[Ip,fD hl']
  intro r0 hr0 m hm
  have hO0:QQ A (((A.upd a (some (.cells [.str [],.raw (.slice none 0 0),.raw (.slice none 0 0),.raw (.slice none 0 0),.raw (.slice none 0 0),.raw (.slice none 0 0)]))).upd b (some (.cells [i64 0]))).upd e (some (.cells [i64 0]))):=(by repeat(first|exact QQ.refl _|refine QQ.set ?_ (by assumption) (by simp [rk,Jh,rd,Zs])))
  have e1:(((A.upd a (some (.cells [.str [],.raw (.slice none 0 0),.raw (.slice none 0 0),.raw (.slice none 0 0),.raw (.slice none 0 0),.raw (.slice none 0 0)]))).upd b (some (.cells [i64 0]))).upd e (some (.cells [i64 0]))) a=some (.cells [.str [],.raw (.slice none 0 0),.raw (.slice none 0 0),.raw (.slice none 0 0),.raw (.slice none 0 0),.raw (.slice none 0 0)]):=by
   rw[Q5 nae,Q5 nab,Q0]
  have e2:(((A.upd a (some (.cells [.str [],.raw (.slice none 0 0),.raw (.slice none 0 0),.raw (.slice none 0 0),.raw (.slice none 0 0),.raw (.slice none 0 0)]))).upd b (some (.cells [i64 0]))).upd e (some (.cells [i64 0]))) b=some (.cells [i64 0]):=by
   rw[Q5 nbe,Q0]
  have e3:(((A.upd a (some (.cells [.str [],.raw (.slice none 0 0),.raw (.slice none 0 0),.raw (.slice none 0 0),.raw (.slice none 0 0),.raw (.slice none 0 0)]))).upd b (some (.cells [i64 0]))).upd e (some (.cells [i64 0]))) e=some (.cells [i64 0]):=Q0 ..
  generalize(((A.upd a (some (.cells [.str [],.raw (.slice none 0 0),.raw (.slice none 0 0),.raw (.slice none 0 0),.raw (.slice none 0 0),.raw (.slice none 0 0)]))).upd b (some (.cells [i64 0]))).upd e (some (.cells [i64 0])))=A0 at*
  obtain⟨hmr,hm0⟩:=Q8 hm
  refine Q3 (f23 G (a:=0) (b:=0) (l:=false) (s:=s) ((Q5 hmr.symm).trans (Q0 ..)) (by omega) (by omega) _ rfl) ?_
  have erd:Zs s (0+QG false (s.drop 0)) (0+QG false (s.drop 0)+Z4 (s.drop (0+QG false (s.drop 0)))) false=rd s (skip s) false:=by
   have:=JY s false
   simp only[rd,skip,List.drop_zero,lN,dW]
   congr 1 <;> congr 1 <;> omega
  rw[erd]
  have hu:At s (skip s):=At.skip List.suffix_rfl
  have h:Mk A0 m r0 s I0 (skip s) false (((A0.upd r0 (some (Zs s 0 0 false))).upd m (some (.cells [.ptr r0 0,.str [],.raw (.slice none 0 0),.raw (.slice none 0 0),.raw (.slice none 0 0),.raw (.slice none 0 0),.raw (.slice none 0 0)]))).upd r0 (some (rd s (skip s) false))):=by
   refine⟨(by repeat(first|exact QQ.refl _|refine QQ.set ?_ (by assumption) (by simp [rk,Jh,rd,Zs]))),hr0,hm0,Q0 ..,_,_,_,_,_,none,none,none,none,none,?_,⟨.inl ⟨rfl,rfl,rfl⟩,.inl ⟨rfl,rfl,rfl⟩,.inl ⟨rfl,rfl,rfl⟩,.inl ⟨rfl,rfl,rfl⟩,.inl ⟨rfl,rfl,rfl⟩⟩,⟨fun i t h=> ?_,fun i j t h=> ?_⟩⟩
   ·rw[Q5 hmr,Q0];rfl
   ·match i,h with
    |0,h|1,h|2,h|3,h|4,h=>cases h
   ·match i,h with
    |0,h|1,h|2,h|3,h|4,h=>cases h
  generalize(((A0.upd r0 (some (Zs s 0 0 false))).upd m (some (.cells [.ptr r0 0,.str [],.raw (.slice none 0 0),.raw (.slice none 0 0),.raw (.slice none 0 0),.raw (.slice none 0 0),.raw (.slice none 0 0)]))).upd r0 (some (rd s (skip s) false)))=B at*
  have hle:=hu.le
  simp only[Q1,seval]
  refine Qh (n24 G hG (N:=N) h hu (by omega) (by omega)) ?_
  intro o B' ho
  cases hR:Kh N (skip s)with
  |bad u=>
   rw[hR]at ho
   obtain⟨rfl,hO⟩:=ho
   simp only[UB,Q1,seval]
   refine W3.mono (n22 G (hO.keep e1) rfl (hO.keep e2) (hO.keep e3) nab nae nbe) ?_
   rintro pn A' ⟨rfl,rfl⟩
   have hO':=((((hO0.trans hO).set ha (by simp)).set hb (by simp)).set he (by simp):QQ A (((B'.upd a (some (.cells [.str [],.raw (.slice none 0 0),.raw (.slice none 0 0),.raw (.slice none 0 0),.raw (.slice none 0 0),.raw (.slice none 0 0)]))).upd b (some (.cells [i64 (s.length - u.length:Nat)]))).upd e (some (.cells [i64 80]))))
   simp only[Q5 hba,Q5 hea,Q5 heb,Q5 nab,Q5 nae,Q5 nbe,UB,XI,Q1,seval]
   exact Y3 (VM Kg) hO'
  |ok M u=>
   rw[hR]at ho
   obtain⟨rfl,h⟩:=ho
   simp only[cZ]at h
   obtain⟨hwf,hlt⟩:=(Nv _ _ _ _ hu (by omega) hR).1
   have hO:=hO0.trans h.ovr
   have e1:=h.ovr.keep e1
   have e2:=h.ovr.keep e2
   have e3:=h.ovr.keep e3
   obtain⟨v1,v2,v3,v4,v5,t1,t2,t3,t4,t5,h1,h2,h3⟩:=h.hm
   have hr1:=h.hr
   rw[Wa]at hr1
   cases hbig:KA M with
   |true=>
    have hfew:UH M=false:=by
     cases hf:UH M with
     |false=>rfl
     |true=>rw[Fd hf]at hbig;cases hbig
    rw[hbig]at hr1
    simp only[h1,hr1,e1,e2,e3,Q5 hba,Q5 hea,Q5 heb,Q5 nab,Q5 nae,Q5 nbe,UB,Q1,seval]
    refine W3.mono (Pk G) ?_
    rintro pn A' ⟨rfl,rfl⟩
    simp only[Q5 hba,Q5 hea,Q5 heb,Q5 nab,Q5 nae,Q5 nbe,UB,XI,hfew,Q1,seval]
    exact Y3 (VM Kg) (((hO.set ha (by simp)).set hb (by simp)).set he (by simp))
   |false=>
    rw[hbig]at hr1
    simp only[h1,hr1,e1,e2,e3,Q5 hba,Q5 hea,Q5 heb,Q5 nab,Q5 nae,Q5 nbe,UB,Q1,seval]
    have hk:=Nr hbig
    rw[hk]at h2
    obtain⟨g1,g2,g3,g4,g5⟩:=h2
    have hp:(.slice 4 M.procs.length (M.procs.flatMap fun p=>(Ws p).cells) none:AV)=Qr 4 Proc.cells M.procs:=PS hbig
    have g5':=g5.wk
    rw[Qr,hp]at g5'
    have hwk:UC [.str (IY M).name,v1,v2,v3,v4,v5] M.cells:=by
     rw[hk]
     exact .cons (Wk.refl _) (.cons g1.wk (.cons g2.wk (.cons g3.wk (.cons g4.wk (.cons g5' .nil)))))
    have h16:Qz Tryz.prog G 16 [.agg [.str (IY M).name,v1,v2,v3,v4,v5]] B' (i64 (Us M)) B':=Qq.wk (.cons (JG hwk) .nil) (k16 G M hlt)
    refine Q3 h16 ?_
    have hf:Us M=if UH M then 0 else 3:=by rw[Us,fC hwf];rfl
    rw[hf]
    cases hfew:UH M with
    |false=>
     simp only[h1,hr1,e1,e2,e3,Q5 hba,Q5 hea,Q5 heb,Q5 nab,Q5 nae,Q5 nbe,UB,Q1,seval]
     refine W3.mono (Pk G) ?_
     rintro pn A' ⟨rfl,rfl⟩
     simp only[Q5 hba,Q5 hea,Q5 heb,Q5 nab,Q5 nae,Q5 nbe,UB,XI,Q1,seval]
     exact Y3 (VM Kg) (((hO.set ha (by simp)).set hb (by simp)).set he (by simp))
    |true=>
     simp only[h1,hr1,e1,e2,e3,g1.one,g2.one,g3.one,g4.one,g5.one,Q5 hba,Q5 hea,Q5 heb,Q5 nab,Q5 nae,Q5 nbe,UB,Q1,seval]
     refine W3.mono (Pk G) ?_
     rintro pn A' ⟨rfl,rfl⟩
     simp only[Q5 hba,Q5 hea,Q5 heb,Q5 nab,Q5 nae,Q5 nbe,UB,XI,Q1,seval]
     exact Y3 (VM (JG hwk)) (((hO.set ha (by simp)).set hb (by simp)).set he (by simp))
end
def JB (k:Int):Nat:=if k=18 then 0 else if k=3∨k=4 then 6 else if k=1∨k=2∨k=19 then 7 else(UF k).2
def VE (l:Nat)(k:Int)(t:Bs):Bs:=if JB k<l then 40::(t++[41])else t
def V9 (k:Int)(n:Bs)(i:Int)(xs:List Exp)(ts:List Bs):Bs:=
 if k=1 then Lib.itoa i else if k=2 then n
 else if k=3 then 45::VE (if(xs.getD 0 JC).kind=1∧0≤(xs.getD 0 JC).int then 8 else 6) (xs.getD 0 JC).kind (ts.getD 0 [])
 else if k=4 then 33::VE 6 (xs.getD 0 JC).kind (ts.getD 0 [])
 else if k=18 then VE 1 (xs.getD 0 JC).kind (ts.getD 0 [])++[32,63,32]++ts.getD 1 []++[32,58,32]++ts.getD 2 []
 else if k=19 then n++[40]++Lib.join ts [44,32]++[41]
 else VE (if JB k=3 then 4 else JB k) (xs.getD 0 JC).kind (ts.getD 0 [])++[32]++(UF k).1++[32]++VE (JB k+1) (xs.getD 1 JC).kind (ts.getD 1 [])
mutual
def Zc:Exp→Bs
 | .mk k n i xs=>V9 k n i xs (TL xs)
def TL:List Exp→List Bs
 |[]=>[]
 |x::xs=>Zc x::TL xs
end
theorem OA:∀xs:List Exp,TL xs=xs.map Zc
 |[]=>rfl
 |x::xs=>by simp only[TL,cJ,OA xs]
def UX (d:Nat):Bs:=List.replicate d 9
def U6 (k:Int)(n:Bs):Bs:=
 if k=1 then[118,97,114,32]++n++[32,61,32]else if k=2 then n++[32,61,32]else if k=5 then[114,101,116,117,114,110,32]else if k=3 then[105,102,32,40]else if k=4 then[119,104,105,108,101,32,40]else[]
mutual
def I7:Nat→Stmt→Bs
 |d,.mk k n v b e=>UX d++(U6 k n++(Zc v++(if k=3∨k=4 then[41,32,123,10]++(Yv (d+1) b++((if e.isEmpty then[]else UX d++([125,32,101,108,115,101,32,123,10]++Yv (d+1) e))++(UX d++[125,10])))else[59,10])))
def Yv:Nat→List Stmt→Bs
 |_,[]=>[]
 |d,x::xs=>I7 d x++Yv d xs
end
theorem IA:∀(d:Nat) (xs:List Stmt),Yv d xs=xs.flatMap (I7 d)
 |_,[]=>rfl
 |d,x::xs=>by simp only[Yv,dD,IA d xs]
def T6 (f:Func):Bs:=WO++[32]++f.name++[40]++Lib.join f.params [44,32]++[41,32,123,10]++Yv 1 f.body++[125,10]
def UW (l:List Func):Bs:=l.flatMap T6
def HH (t:Test):Bs:=t.clock++[32]++((if t.lower then[62]else[60])++(if t.strict then[]else[61]))++[32]++Lib.itoa t.c
def Vm (l:List Test):Bs:=Lib.join (l.map HH) [32,38,38,32]
def X2 (a:Assign):Bs:=a.name++[32,61,32]++Zc a.val
def Xb (c:Clear):Bs:=c.clock++[32,61,32]++Lib.itoa c.tv
def Zk (is:Bool)(w t:Bs):Bs:=if is then[32]++w++[32]++t else[]
def K1 (x:Edge):Bs:=
 [9]++Vf++[32]++x.src++[32,45,62,32]++x.dst++Zk (!x.tests.isEmpty) V0 (Vm x.tests)++Zk (!(isNone x.cond)) YA (Zc x.cond)++Zk (!x.chan.isEmpty) V1 (x.chan++(if x.send then[33]else[63]))++
 Zk (!x.sets.isEmpty) Xc (Lib.join (x.sets.map X2) [44,32])++Zk (!x.clears.isEmpty) Y1 (Lib.join (x.clears.map Xb) [44,32])++Zk (x.cost !=0) V3 (Lib.itoa x.cost)++Zk (x.kind !=0) V2 (Lib.itoa x.kind)++[59,10]
def Wq (k:Int):Bs:=if k=1 then[32]++ZO else if k=2 then[32]++Vj else[]
def Oe (l:Loc):Bs:=[9]++Vt++[32]++l.name++Wq l.kind++Zk (!l.inv.isEmpty) UE (Vm l.inv)++Zk (l.rate !=0) VH (Lib.itoa l.rate)++[59,10]
def W7 (p:Proc):Bs:=YY++[32]++p.name++[32]++IV++[32]++p.init++[32,123,10]++p.locs.flatMap Oe++p.edges.flatMap K1++[125,10]
def W6 (v:Var):Bs:=UY++[32]++v.name++[32]++RI++[32]++Lib.itoa v.low++[46,46]++Lib.itoa v.high++[32,61,32]++Lib.itoa v.init++[59,10]
def UD (c:Chan):Bs:=(if c.broadcast then JW++[32]else[])++(if c.urgent then ZO++[32]else[])++Jy++[32]++c.name++[59,10]
def Ic (l:List Bs):Bs:=if l.isEmpty then[]else In++[32]++Lib.join l [44,32]++[59,10]
def RH (m:Model):Bs:=Ww++[32]++m.name++[59,10]++Ic m.clocks++m.vars.flatMap W6++m.chans.flatMap UD++UW m.funcs++m.procs.flatMap W7
end Go.Proofs.YtcbjbgaefighcaaGreatDoor
