/- Part 18 of the proof. -/
import Derived.Test.YtcbjbgaefighcaaGreatDoorT0
import Derived.Test.YtcbjbgaefighcaaGreatDoorT11
import Derived.Test.YtcbjbgaefighcaaGreatDoorT17
import Derived.Shelf.Spec.SlicesGrow
set_option linter.all false
namespace Go.Proofs.YtcbjbgaefighcaaGreatDoor
open Go Go.Ax Go.Proofs
theorem GG {α β:Type}{R:Res α}{k:Bs→Res β}:(R.bind fun _ u=>k u)=R.void.bind fun _ u=>k u:=by cases R <;> rfl
theorem kE {α:Type}{R:Res α}:R.void=R.bind fun _ u=>.ok () u:=rfl
section
variable (G:Nat→Option (List AV))
theorem Mh {g:Nat}{u:Bs}:(ZL (g+1) u).void=
 if cur u=JM then(Ql [40] (adv u)).bind fun _ u1=>(Z0 g u1).bind fun _ u2=>(Ql [41] u2).bind fun _ u3=>(ZF g u3).bind fun _ u4=>if cur u4=VM then(ZF g (adv u4)).bind fun _ u5=>.ok () u5 else .ok () u4
 else if cur u=YH then(Ql [40] (adv u)).bind fun _ u1=>(Z0 g u1).bind fun _ u2=>(Ql [41] u2).bind fun _ u3=>(ZF g u3).bind fun _ u4=>.ok () u4
 else if cur u=VV then(Z0 g (adv u)).bind fun _ u1=>(Ql [59] u1).bind fun _ u2=>.ok () u2
 else(Za (if cur u=VE then adv u else u)).bind fun _ u1=>(Ql [61] u1).bind fun _ u2=>(Z0 g u2).bind fun _ u3=>(Ql [59] u3).bind fun _ u4=>.ok () u4:=by
 simp only[ZL,Uz,JV,V8]
 split
 ·rfl
 ·split
  ·rfl
  ·split
   ·rfl
   ·split <;> rfl
theorem CH (hG:Gl G):∀(f:Nat) {A:Q3} {r:Nat} {s u:Bs} {lo:Bool},A r=some (rd s u lo)→At s u→s.length≤20000→10*u.length+11≤f→Qt Tryz.prog G 171 [.ptr r 0] A (VC r s A lo (ZF f u).void):=by
 intro f
 induction f using Nat.strongRecOn with
 |_ f ih=>
 intro A r s u lo hr hu hs hf
 obtain⟨f,rfl⟩:∃g,f=g+1:=⟨f - 1,by omega⟩
 obtain⟨f,rfl⟩:∃g,f=g+1:=⟨f - 1,by omega⟩
 refine Q4 l171 (fE rfl) ?_
 simp only[Aw,Q1,seval]
 have hB:(ZF (f+1+1) u).void=(Ql [123] u).bind fun _ u1=>(ZE (fun u=>ZL (f+1) u) (f+1) [] u1).void:=by
  have key:∀g,(ZF (g+1) u).void=(Ql [123] u).bind fun _ u1=>(ZE (fun u=>ZL g u) g [] u1).void:=fun g=>by simp only[ZF,JV]
  exact key _
 rw[hB]
 refine QH (YQ G hr hu (by omega)) (by repeat first|exact QK.refl _ _|refine QK.at ?_ _|refine QK.set ?_ (by assumption) (by simp)) fun _ u1 h1=> ?_
 have b1:=Qn (by decide) _ _ _ _ hu h1
 have:=b1.lt
 simp only[Qp,Q1,seval]
 refine Qv (fun k env ds A'=>∃(l:List Stmt) (u':Bs) (f':Nat),k=u'.length∧env 0=.ptr r 0∧ds=[]∧At s u'∧u'.length≤u1.length∧A' r=some (rd s u' lo)∧QK r A A'∧u'.length<f'∧
  (ZE (fun u=>ZL (f+1) u) (f+1) [] u1).void=(ZE (fun u=>ZL (f+1) u) f' l u').void) u1.length
  ⟨[],u1,f+1,rfl,rfl,rfl,b1.at',fG _,(by exact Q0 ..),(by repeat first|exact QK.refl _ _|refine QK.at ?_ _|refine QK.set ?_ (by assumption) (by simp)),by omega,rfl⟩ ?_
 rintro k env ds A' ⟨l,u',f',rfl,e0,rfl,hu',hlt,hr',hov,hfu,hR⟩
 obtain⟨f',rfl⟩:∃g,f'=g+1:=⟨f' - 1,by omega⟩
 rw[hR]
 simp only[e0,Q1,seval]
 refine Q2 (YV G hr' hu' hs) ?_
 by_cases hc:cur u'=[125]
 ·simp only[fA hc,fC hc,ZE,V8,QQ,Q1,seval]
  exact VH (hov.at _) (by exact Q0 ..)
 have hU:(ZE (fun u=>ZL (f+1) u) (f'+1) l u').void=(ZL (f+1) u').void.bind fun _ u1=>(ZE (fun u=>ZL (f+1) u) f' [] u1).void:=by
  have key:∀(f:Nat) (one:Bs→Res Stmt) (l m:List Stmt) (u:Bs),(ZE one f l u).void=(ZE one f m u).void:=by
   intro f
   induction f with
   |zero=>intro one l m u;rfl
   |succ f ih=>
    intro one l m u
    simp only[ZE,Uz,JV,V8]
    split
    ·rfl
    ·congr 1;funext a u;exact ih _ _ _ _
  simp only[ZE]
  rw[fD hc,←GG]
  simp only[JV]
  congr 1;funext a u;exact key _ _ _ _ _
 have hfin:∀{u2:Bs} {A2:Q3},(ZL (f+1) u').void=.ok () u2→A2 r=some (rd s u2 lo)→At s u2→u2.length<u'.length→QK r A A2→
  ∃m,m<u'.length∧∃l' u'_1 f'_1,m=List.length u'_1∧At s u'_1∧u'_1.length≤u1.length∧A2 r=some (rd s u'_1 lo)∧QK r A A2∧u'_1.length<f'_1∧
   (ZL (f+1) u').void.bind (fun _ u1=>(ZE (fun u=>ZL (f+1) u) f' [] u1).void)=(ZE (fun u=>ZL (f+1) u) f'_1 l' u'_1).void:=fun h1 h2 h3 h4 h5=>
  ⟨_,h4,[],_,f',rfl,h3,by omega,h2,h5,by omega,by rw[h1];rfl⟩
 rw[hU,Mh]
 rw[Mh]at hfin
 simp only[fB hc,fD hc,e0,Q1,seval]
 have hr1:(A'.upd r (some (rd s u' lo))) r=some (rd s u' lo):=Q0 ..
 have hov1:QK r A (A'.upd r (some (rd s u' lo))):=hov.at _
 generalize A'.upd r (some (rd s u' lo))=B at*
 refine Q2 (KN G hr1 hu') ?_
 simp only[e0,Q1,seval]
 clear hfin
 refine⟨fun hi=> ?_,fun hi=>⟨fun hw=> ?_,fun hw=>⟨fun hre=> ?_,fun hre=> ?_⟩⟩⟩
 ·have b0:=Beh.adv hu' hi (by decide)
  have:=b0.lt
  rw[fC (show cur u'=JM from hi)]
  simp only[Zk]
  refine Q2 (W6 G hr1 hu' (by omega)) ?_
  simp only[e0,Q1,seval]
  refine QH (YQ G (by exact Q0 ..) b0.at' (by omega)) (hov1.at _) fun _ u1' h1'=> ?_
  have b1':=Qn (by decide) _ _ _ _ b0.at' h1'
  have:=b1'.lt
  simp only[e0,Qp,Q1,seval]
  refine Yb ((pc G hG f).e (by exact Q0 ..) b1'.at' hs (by omega)) (hov1.at _) fun _ u2 h2=> ?_
  have b2:=JS _ _ _ _ b1'.at' h2
  have:=b2.lt
  simp only[e0,Q1,seval]
  refine QH (YQ G (by exact Q0 ..) b2.at' (by omega)) (hov1.at _) fun _ u3 h3=> ?_
  have b3:=Qn (by decide) _ _ _ _ b2.at' h3
  have:=b3.lt
  simp only[e0,Qp,Q1,seval]
  refine Yb (ih f (by omega) (by exact Q0 ..) b3.at' hs (by omega)) (hov1.at _) fun _ u4 h4=> ?_
  have b4:=(HW f).b _ _ _ _ b3.at' h4
  have:=b4.lt
  simp only[e0,Q1,seval]
  refine⟨fun _=> ?_,fun h=>absurd hi h⟩
  refine Q2 (YV G (by exact Q0 ..) b4.at' hs) ?_
  by_cases he:cur u4=VM
  ·have b5:=Beh.adv b4.at' he (by decide)
   have:=b5.lt
   rw[fC he]
   simp only[fA (show cur u4=[101,108,115,101]from he),fC (show cur u4=[101,108,115,101]from he),e0,Zk,Q7,Q1,seval]
   refine Yb (ih f (by omega) (by exact Q0 ..) b5.at' hs (by omega)) (hov1.at _) fun _ u5 h5=> ?_
   have b6:=(HW f).b _ _ _ _ b5.at' h5
   have:=b6.lt
   simp only[e0,Q1,seval]
   exact⟨_,by omega,[],u5,f',rfl,b6.at',by omega,rfl,hov1.at _,by omega,by simp only[h1',h2,h3,h4,Q7];rw[fC he];simp only[h5,Q7]⟩
  ·simp only[fB (show¬cur u4=[101,108,115,101]from he),fD (show¬cur u4=[101,108,115,101]from he),e0,Q1,seval]
   exact⟨_,by omega,[],u4,f',rfl,b4.at',by omega,rfl,hov1.at _,by omega,by simp only[h1',h2,h3,h4,Q7];rw[fD he];rfl⟩
 ·have b0:=Beh.adv hu' hw (by decide)
  have:=b0.lt
  rw[fD (show¬cur u'=JM from hi),fC (show cur u'=YH from hw)]
  simp only[Zk]
  refine Q2 (W6 G hr1 hu' (by omega)) ?_
  simp only[e0,Q1,seval]
  refine QH (YQ G (by exact Q0 ..) b0.at' (by omega)) (hov1.at _) fun _ u1' h1'=> ?_
  have b1':=Qn (by decide) _ _ _ _ b0.at' h1'
  have:=b1'.lt
  simp only[e0,Qp,Q1,seval]
  refine Yb ((pc G hG f).e (by exact Q0 ..) b1'.at' hs (by omega)) (hov1.at _) fun _ u2 h2=> ?_
  have b2:=JS _ _ _ _ b1'.at' h2
  have:=b2.lt
  simp only[e0,Q1,seval]
  refine QH (YQ G (by exact Q0 ..) b2.at' (by omega)) (hov1.at _) fun _ u3 h3=> ?_
  have b3:=Qn (by decide) _ _ _ _ b2.at' h3
  have:=b3.lt
  simp only[e0,Qp,Q1,seval]
  refine Yb (ih f (by omega) (by exact Q0 ..) b3.at' hs (by omega)) (hov1.at _) fun _ u4 h4=> ?_
  have b4:=(HW f).b _ _ _ _ b3.at' h4
  have:=b4.lt
  simp only[e0,Q1,seval]
  refine⟨fun h=>absurd h hi,fun _=>⟨_,by omega,[],u4,f',rfl,b4.at',by omega,rfl,hov1.at _,by omega,by simp only[h1',h2,h3,h4,Q7]⟩⟩
 ·have b0:=Beh.adv hu' hre (by decide)
  have:=b0.lt
  rw[fD (show¬cur u'=JM from hi),fD (show¬cur u'=YH from hw),fC (show cur u'=VV from hre)]
  simp only[Zk]
  refine Q2 (W6 G hr1 hu' (by omega)) ?_
  simp only[e0,Q1,seval]
  refine Yb ((pc G hG f).e (by exact Q0 ..) b0.at' hs (by omega)) (hov1.at _) fun _ u2 h2=> ?_
  have b2:=JS _ _ _ _ b0.at' h2
  have:=b2.lt
  simp only[e0,Q1,seval]
  refine QH (YQ G (by exact Q0 ..) b2.at' (by omega)) (hov1.at _) fun _ u3 h3=> ?_
  have b3:=Qn (by decide) _ _ _ _ b2.at' h3
  have:=b3.lt
  simp only[e0,Qp,Q7,Q1,seval]
  exact⟨_,by omega,[],u3,f',rfl,b3.at',by omega,rfl,hov1.at _,by omega,by simp only[h2,h3,Q7]⟩
 ·rw[fD (show¬cur u'=JM from hi),fD (show¬cur u'=YH from hw),fD (show¬cur u'=VV from hre)]
  simp only[Zk]
  refine Q2 (YV G hr1 hu' hs) ?_
  have hv:At s (if cur u'=VE then adv u' else u')∧(if cur u'=VE then adv u' else u').length≤u'.length:=by
   split
   ·rename_i h
    have b:=Beh.adv hu' h (by decide)
    exact⟨b.at',b.beq.le⟩
   ·exact⟨hu',fG _⟩
  rw[show(if cur u'=[118,97,114]then adv u' else u')=(if cur u'=VE then adv u' else u')from rfl]
  generalize(if cur u'=VE then adv u' else u')=v at hv⊢
  simp only[e0,Q1,seval]
  refine QH (WR G (by exact Q0 ..) hv.1 (by omega)) (hov1.at _) fun _ w1 g1=> ?_
  have b1':=QM _ _ _ _ hv.1 g1
  have:=b1'.lt
  have:=hv.2
  simp only[e0,Qp,Q1,seval]
  refine QH (YQ G (by exact Q0 ..) b1'.at' (by omega)) (hov1.at _) fun _ w2 g2=> ?_
  have b2:=Qn (by decide) _ _ _ _ b1'.at' g2
  have:=b2.lt
  simp only[e0,Qp,Q1,seval]
  refine Yb ((pc G hG f).e (by exact Q0 ..) b2.at' hs (by omega)) (hov1.at _) fun _ w3 g3=> ?_
  have b3:=JS _ _ _ _ b2.at' g3
  have:=b3.lt
  simp only[e0,Q1,seval]
  refine QH (YQ G (by exact Q0 ..) b3.at' (by omega)) (hov1.at _) fun _ w4 g4=> ?_
  have b4:=Qn (by decide) _ _ _ _ b3.at' g4
  have:=b4.lt
  simp only[e0,Qp,Q7,Q1,seval]
  exact⟨_,by omega,[],w4,f',rfl,b4.at',by omega,rfl,hov1.at _,by omega,by simp only[g1,g2,g3,g4,Q7]⟩
theorem n85 (hG:Gl G){f:Nat}{A:Q3}{r:Nat}{s u:Bs}{lo:Bool}(hr:A r=some (rd s u lo))(hu:At s u)(hs:s.length≤20000)(hf:10*u.length+11≤f):Qt Tryz.prog G 85 [.ptr r 0] A (VC r s A lo (V4 f u).void):=by
 refine Q4 l85 (fE rfl) ?_
 simp only[C85,Q1,seval]
 simp only[V4,JV,V8]
 refine QH (YQ G hr hu (by omega)) (by repeat first|exact QK.refl _ _|refine QK.at ?_ _|refine QK.set ?_ (by assumption) (by simp)) fun _ u1 h1=> ?_
 have b1:=Qn (by decide) _ _ _ _ hu h1
 have:=b1.lt
 simp only[Qp,Q1,seval]
 refine QH (WR G (by exact Q0 ..) b1.at' (by omega)) (by repeat first|exact QK.refl _ _|refine QK.at ?_ _|refine QK.set ?_ (by assumption) (by simp)) fun _ u2 h2=> ?_
 have b2:=QM _ _ _ _ b1.at' h2
 have:=b2.lt
 simp only[Qp,Q1,seval]
 refine QH (YQ G (by exact Q0 ..) b2.at' (by omega)) (by repeat first|exact QK.refl _ _|refine QK.at ?_ _|refine QK.set ?_ (by assumption) (by simp)) fun _ u3 h3=> ?_
 have b3:=Qn (by decide) _ _ _ _ b2.at' h3
 have:=b3.lt
 simp only[Qp,Q1,seval]
 refine Q2 (YV G (by exact Q0 ..) b3.at' hs) ?_
 by_cases hc:cur u3=[41]
 ·have b4:=Beh.adv b3.at' hc (by decide)
  have:=b4.lt
  simp only[fA hc,fC hc,Uf,Q7,Q1,seval]
  refine Yb (CH G hG f (by exact Q0 ..) b4.at' hs (by omega)) (by repeat first|exact QK.refl _ _|refine QK.at ?_ _|refine QK.set ?_ (by assumption) (by simp)) fun _ u5 h5=> ?_
  simp only[QQ,Q1,seval]
  exact VH (by repeat first|exact QK.refl _ _|refine QK.at ?_ _|refine QK.set ?_ (by assumption) (by simp)) (by exact Q0 ..)
 ·simp only[fB hc,fD hc,Uf,Zk,Q7,Q1,seval]
  refine QH (GJ G (one:=Za) (big:=Zs) (enc:=.str) (fn:=81) (first:=[.ptr r 0]) (cap:=[]) (by exact Q0 ..) b3.at' hs (by decide) (by omega) (fun A' u' lo' _ hr' hu' _=>WR G hr' hu' (by omega)) QM (fun _=>rfl) (fun _=>rfl)) (by repeat first|exact QK.refl _ _|refine QK.at ?_ _|refine QK.set ?_ (by assumption) (by simp)) fun l u4 h4=> ?_
  have b4:=VU (by decide) QM _ _ _ _ b3.at' h4
  have:=b4.lt
  simp only[US,cT,Q1,seval]
  refine QH (YQ G (by exact Q0 ..) b4.at' (by omega)) (by repeat first|exact QK.refl _ _|refine QK.at ?_ _|refine QK.set ?_ (by assumption) (by simp)) fun _ u5 h5=> ?_
  have b5:=Qn (by decide) _ _ _ _ b4.at' h5
  have:=b5.lt
  simp only[Qp,Q1,seval]
  refine Yb (CH G hG f (by exact Q0 ..) b5.at' hs (by omega)) (by repeat first|exact QK.refl _ _|refine QK.at ?_ _|refine QK.set ?_ (by assumption) (by simp)) fun _ u6 h6=> ?_
  simp only[QQ,Q1,seval]
  exact VH (by repeat first|exact QK.refl _ _|refine QK.at ?_ _|refine QK.set ?_ (by assumption) (by simp)) (by exact Q0 ..)
end
def XV (x:Exp):Exp:=if Zm x then x else JO
def J5 (x:Exp):Bool:= !Zm x
section
variable (G:Nat→Option (List AV))
theorem n86 {A:Q3}{r:Nat}{s u u':Bs}{lo:Bool}(hr:A r=some (rd s u lo))(hu:At s u')(hs:s.length≤20000):
 Qu Tryz.prog G 86 [.ptr r 0,i64 (s.length - u'.length:Nat),i64 0] A ZK (A.upd r (some (rd s u' lo))):=by
 have hle:=hu.le
 refine Q4 l86 (fE rfl) ?_
 rw[Ke]at hr
 simp only[C86,hr,Q1,seval]
 refine Q2 (f23 G (r:=r) (s:=s) (a:=s.length - u.length) (b:=s.length - u'.length) (l:=lo) (by exact Q0 ..) (by omega) (by omega) _ rfl) ?_
 have e:s.length - u'.length+QG false (s.drop (s.length - u'.length))=s.length - u'.length:=by rw[hu.drop,hu.nrm];rfl
 rw[e,hu.drop]
 simp only[QQ,Q1,seval]
 exact Qx rfl (U2.refl _)
theorem CD {α:Type}{enc:α→AV}{A:Q3}{r:Nat}{s u u':Bs}{lo lo0:Bool}{big:α→Bool}(hr:A r=some (rd s u lo)):
 Qt Tryz.prog G 86 [.ptr r 0,i64 (s.length - u'.length:Nat),i64 80] A (Jo r s A lo0 big enc (.bad u')):=by
 refine Q4 l86 (fE rfl) ?_
 simp only[C86,XF,Q1,seval]
 exact⟨_,XC (fun k=>by by_cases e:k=r <;> simp [Q3.upd,e,hr,rd,Zz]),rfl,rfl⟩
theorem CF (hG:Gl G){f:Nat}{A:Q3}{r:Nat}{s u:Bs}{lo:Bool}(hr:A r=some (rd s u lo))(hu:At s u)(hs:s.length≤20000)(hf:10*u.length+9≤f):
 Qt Tryz.prog G 222 [.ptr r 0] A (Jo r s A lo J5 (fun x=>Zw (XV x)) (Z0 f u)):=by
 have hrc:=hr
 rw[Ke]at hrc
 obtain⟨x,a,e,hx,hcase⟩:∃x a e,Ud s (Zw JO) Zw Zm (Z0 f u)=.tuple [Zw x,i64 a,i64 e]∧((∃u',Z0 f u=.ok x u'∧Zm x=true∧a=(s.length - u'.length:Nat)∧e=0)∨
  (∃y u',Z0 f u=.ok y u'∧Zm y=false∧e=3)∨(∃u',Z0 f u=.bad u'∧a=(s.length - u'.length:Nat)∧e=80)):=by
  cases hR:Z0 f u with
  |ok y u'=>
   cases hs:Zm y with
   |true=>exact⟨y,_,_,by simp only[Ud,hs,if_true],.inl ⟨u',rfl,hs,rfl,rfl⟩⟩
   |false=>exact⟨JO,0,3,by simp only[Ud,hs,cB,if_false],.inr (.inl ⟨y,u',rfl,hs,rfl⟩)⟩
  |bad u'=>exact⟨JO,_,_,rfl,.inr (.inr ⟨u',rfl,rfl,rfl⟩)⟩
 obtain⟨xk,xn,xi,xs⟩:=x
 refine Q4 l222 (fE rfl) ?_
 unfold BT
 refine Qd (fun env ds A'=>∃c,env 0=.ptr r 0∧env 2=.ptr c 0∧ds=[]∧A c=none∧A'=A.upd c (some (.cells [i64 0,.str [],i64 0,.raw (.slice none 0 0)]))) ?_ ?_
 ·simp only[Q1,seval]
  intro c hc
  exact⟨c,rfl,hc,rfl⟩
 rintro env ds A1 ⟨c,e0,e2,rfl,hc,rfl⟩
 have hcr:=Q6 hr hc
 refine Qd (fun env ds A'=>∃d,env 0=.ptr r 0∧env 2=.ptr c 0∧env 3=.ptr d 0∧env 4=i64 a∧env 5=i64 e∧ds=[]∧d≠c∧A d=none∧A'=(A.upd c (some (.cells [i64 0,.str [],i64 0,.raw (.slice none 0 0)]))).upd d (some (.cells (Exp.mk xk xn xi xs).cells))) ?_ ?_
 ·simp only[e0,e2,Q5 hcr,hrc,Q1,seval]
  refine⟨?_,?_⟩
  ·refine Q2 (Bc G hG hu hs hf) ?_
   rw[hx]
   simp only[e0,e2,Zw,Exp.cells,Q1,seval]
   intro d hd
   obtain⟨hdc,hd0⟩:=Q9 hd
   have hdr:=Q6 hr hd0
   simp only[Q5 hdr,Q5 hcr,hrc,QW,Q1,seval]
   exact⟨d,rfl,hdc,hd0,rfl⟩
  ·intro d hd
   obtain⟨hdc,hd0⟩:=Q9 hd
   have hdr:=Q6 hr hd0
   simp only[Q5 hdr,Q5 hcr,hrc,QW,Q1,seval]
   refine Q2 (Bc G hG hu hs hf) ?_
   rw[hx]
   simp only[e0,e2,Zw,Exp.cells,QW,Q1,seval]
   exact⟨d,rfl,hdc,hd0,rfl⟩
 rintro env ds A2 ⟨d,e0,e2,e3,e4,e5,rfl,hdc,hd0,rfl⟩
 have hdr:=Q6 hr hd0
 have hr2:∀X Y,((A.upd c X).upd d Y) r=some (rd s u lo):=fun X Y=>by rw[Q5 hdr,Q5 hcr,hr]
 rcases hcase with⟨u',hR,hsm,rfl,rfl⟩|⟨y,u',hR,hsm,rfl⟩|⟨u',hR,rfl,rfl⟩
 ·rw[hR]
  simp only[e0,e2,e3,e4,e5,Q1,seval]
  refine Q2 (n86 G (hr2 _ _) (JS _ _ _ _ hu hR).at' hs) ?_
  simp only[e0,e2,e3,e4,e5,Q5 hdr.symm,Q5 hcr.symm,Q5 hdc.symm,Exp.cells,Q1,seval]
  refine VI ?_ ?_ ?_
  ·simp only[XV,hsm,if_true];exact Wk.refl _
  ·exact QK.set (QK.at (QK.set (QK.set (QK.refl _ _) hc (by simp)) hd0 (by simp)) _) hc (by simp)
  ·rw[Q5 hcr,Q0];simp [J5,hsm]
 ·rw[hR]
  have hr2c:∀X Y,((A.upd c X).upd d Y) r=some (.cells [.str s,i64 (s.length - u.length:Nat),i64 (s.length - u.length+Z4 u:Nat),bo lo]):=fun X Y=>by rw[hr2];rfl
  simp only[e0,e2,e3,e4,e5,hr2c,Q1,seval]
  refine Qk ((pc G hG f).e (s:=s) (u:=u) (lo:=true) (by exact Q0 ..) hu hs hf) ?_
  intro o A' h
  rw[hR]at h
  obtain⟨rfl,rfl⟩:=h
  simp only[e0,e2,e3,e4,e5,Q5 hdr.symm,Q5 hcr.symm,Q5 hdc.symm,Qp,Q1,seval]
  refine VI ?_ ?_ ?_
  ·simp only[XV,hsm,cB,if_false];exact YA (Kp (k:=0) (n:=[]) (i:=0)).wk
  ·exact QK.set (QK.at (QK.set (QK.set (QK.refl _ _) hc (by simp)) hd0 (by simp)) _) hc (by simp)
  ·rw[Q5 hcr,Q0];simp [J5,hsm]
 ·rw[hR]
  simp only[e0,e2,e3,e4,e5,Q1,seval]
  exact ML (CD (enc:=fun(_:Unit)=>ZK) (lo0:=lo) (big:=Zs) G (hr2 _ _)) (QK.set (QK.set (QK.refl _ _) hc (by simp)) hd0 (by simp))
end
def IB (a:Assign):Assign:=⟨a.name,XV a.val⟩
def YW (a:Assign):Bool:=J5 a.val
theorem Ii {A:Q3}{r d t:Nat}{X Y X' Y':AObj}(hdr:d≠r)(hd:A d=none)(h:((((A.upd r (some X)).upd d (some Y)).upd r (some X')).upd d (some Y')) t=none):A t=none∧t≠r∧t≠d:=by
 obtain⟨h1,h⟩:=Q9 h
 obtain⟨h2,h⟩:=Q9 h
 obtain⟨_,h⟩:=Q9 h
 obtain⟨_,h⟩:=Q9 h
 exact⟨h,h2,h1⟩
theorem vD {a b:AV}(ha:a.cells.length=4)(hb:b.cells.length=4):Xz 4 2 [.string ⟨#[]⟩,.bool false,.bool false,.int .i64 0] [(0,a),(1,b)]=some (a.cells++b.cells):=by
 simp only[Xz,cJ,dH,Xv,Nat.zero_mul,Nat.one_mul]
 rw[fC ⟨ha,by simp⟩,fC ⟨hb,by simp [ha]⟩]
 simp [VP,ha,List.take_append,List.drop_append]
section
variable (G:Nat→Option (List AV))
theorem n224 (hG:Gl G){f:Nat}{A:Q3}{r:Nat}{s u:Bs}{lo:Bool}(hr:A r=some (rd s u lo))(hu:At s u)(hs:s.length≤20000)(hf:10*u.length+9≤f):
 Qt Tryz.prog G 224 [.ptr r 0] A (Jo r s A lo YW (fun a=>.agg (IB a).cells) (VY f u)):=by
 refine Q4 l224 (fE rfl) ?_
 simp only[VY]
 simp only[BR,Q1,seval]
 intro c hc
 have hcr:=Q6 hr hc
 refine QH (WR G (s:=s) (u:=u) (lo:=lo) (by rw[Q5 hcr,hr]) hu (by omega)) (by repeat first|exact QK.refl _ _|refine QK.at ?_ _|refine QK.set ?_ (by assumption) (by simp)) fun n u1 h1=> ?_
 have b1:=QM _ _ _ _ hu h1
 have:=b1.lt
 simp only[Qp,Q1,seval]
 intro d hd
 obtain⟨hdr,hd⟩:=Q9 hd
 obtain⟨hdc,hd⟩:=Q9 hd
 refine QH (YQ G (s:=s) (u:=u1) (lo:=lo) (by rw[Q5 hdr.symm];exact Q0 ..) b1.at' (by omega)) (by repeat first|exact QK.refl _ _|refine QK.at ?_ _|refine QK.set ?_ (by assumption) (by simp)) fun _ u2 h2=> ?_
 have b2:=Qn (by decide) _ _ _ _ b1.at' h2
 have:=b2.lt
 simp only[Qp,Q1,seval]
 refine QH (CF G hG (f:=f) (by exact Q0 ..) b2.at' hs (by omega)) (by repeat first|exact QK.refl _ _|refine QK.at ?_ _|refine QK.set ?_ (by assumption) (by simp)) fun x u3 h3=> ?_
 have b3:=JS _ _ _ _ b2.at' h3
 obtain⟨k,m,i,xs,hp⟩:∃k m i xs,XV x=.mk k m i xs:=by cases XV x;exact⟨_,_,_,_,rfl⟩
 simp only[Zw,hp,Exp.cells,Q5 hdr,Q5 hdc,Q5 hcr,Q5 hdr.symm,Q5 hdc.symm,Q5 hcr.symm,Q1,seval]
 refine VI ?_ ?_ ?_
 ·simp only[Assign.cells,IB,hp,Exp.cells];exact Wk.refl _
 ·exact(by repeat first|exact QK.refl _ _|refine QK.at ?_ _|refine QK.set ?_ (by assumption) (by simp))
 ·simp [Q3.upd,hdr.symm,hcr,YW]
theorem n226 (hG:Gl G){A:Q3}{r:Nat}{s u:Bs}{lo:Bool}(hr:A r=some (rd s u lo))(hu:At s u)(hs:s.length≤20000):
 Qt Tryz.prog G 226 [.ptr r 0] A (Jo r s A lo Zs (fun a=>.agg a.cells) (UL u)):=by
 refine Q4 l226 (fE rfl) ?_
 simp only[UL]
 simp only[BP,Q1,seval]
 intro c hc
 have hcr:=Q6 hr hc
 refine QH (WR G (s:=s) (u:=u) (lo:=lo) (by rw[Q5 hcr,hr]) hu (by omega)) (by repeat first|exact QK.refl _ _|refine QK.at ?_ _|refine QK.set ?_ (by assumption) (by simp)) fun n u1 h1=> ?_
 have b1:=QM _ _ _ _ hu h1
 have:=b1.lt
 simp only[Qp,Q1,seval]
 intro d hd
 obtain⟨hdr,hd⟩:=Q9 hd
 obtain⟨hdc,hd⟩:=Q9 hd
 refine QH (YQ G (s:=s) (u:=u1) (lo:=lo) (by rw[Q5 hdr.symm];exact Q0 ..) b1.at' (by omega)) (by repeat first|exact QK.refl _ _|refine QK.at ?_ _|refine QK.set ?_ (by assumption) (by simp)) fun _ u2 h2=> ?_
 have b2:=Qn (by decide) _ _ _ _ b1.at' h2
 have:=b2.lt
 simp only[Qp,Q1,seval]
 refine QH (W9 G hG (by exact Q0 ..) b2.at' hs) (by repeat first|exact QK.refl _ _|refine QK.at ?_ _|refine QK.set ?_ (by assumption) (by simp)) fun x u3 h3=> ?_
 have b3:=Oq _ _ _ _ b2.at' h3
 simp only[Qp,Q5 hdr,Q5 hdc,Q5 hcr,Q5 hdr.symm,Q5 hdc.symm,Q5 hcr.symm,Q1,seval]
 refine VI ?_ ?_ ?_
 ·exact Wk.refl _
 ·exact(by repeat first|exact QK.refl _ _|refine QK.at ?_ _|refine QK.set ?_ (by assumption) (by simp))
 ·simp [Q3.upd,hdr.symm,hcr,Zs]
theorem n253 (hG:Gl G){A:Q3}{r:Nat}{s u:Bs}{lo:Bool}(hr:A r=some (rd s u lo))(hu:At s u)(hs:s.length≤20000):
 Qt Tryz.prog G 253 [.ptr r 0] A (Jo r s A lo Zs (Qy 4 Test.cells) (Wf u)):=by
 refine Q4 l253 (fE rfl) ?_
 simp only[Wf]
 simp only[By,Q1,seval]
 refine QH (WR G (s:=s) (u:=u) (lo:=lo) hr hu (by omega)) (by repeat first|exact QK.refl _ _|refine QK.at ?_ _|refine QK.set ?_ (by assumption) (by simp)) fun n u1 h1=> ?_
 have b1:=QM _ _ _ _ hu h1
 have:=b1.lt
 simp only[Qp,Q1,seval]
 intro d hd
 obtain⟨hdr,hd⟩:=Q9 hd
 refine Q2 (KN G (s:=s) (u:=u1) (lo:=lo) (by rw[Q5 hdr.symm];exact Q0 ..) b1.at') ?_
 simp only[Q1,seval]
 have hz:((UInt8.toNat 60:Nat):Int)=62↔False:=by decide
 have hz':((UInt8.toNat 62:Nat):Int)=62↔True:=by decide
 have ho:((1:Nat):Int)=1↔True:=by decide
 have ho':((2:Nat):Int)=1↔False:=by decide
 have hb:∀w:Bs,w≠[]→cur u1=w→Beh s u1 (adv u1):=fun w hw h=>Beh.adv b1.at' h hw
 refine⟨fun h=> ?_,fun g1=>⟨fun h=> ?_,fun g2=>⟨fun h=> ?_,fun g3=>⟨fun h=> ?_,fun g4=>⟨fun h=> ?_,fun g5=> ?_⟩⟩⟩⟩⟩
 ·have b2:=hb _ (by simp) h
  have:=b2.lt
  rw[fC h]
  simp only[h,hz,hz',ho,ho',Q1,seval]
  refine Q2 (W6 G (s:=s) (u:=u1) (lo:=lo) (by rw[Q5 hdr.symm];exact Q0 ..) b1.at' (by omega)) ?_
  simp only[Q1,seval]
  refine QH (W9 G hG (by exact Q0 ..) b2.at' hs) (by repeat first|exact QK.refl _ _|refine QK.at ?_ _|refine QK.set ?_ (by assumption) (by simp)) fun x u3 h3=> ?_
  simp only[Qp,Q5 hdr,Q5 hdr.symm,Q1,seval]
  refine QY (cs:=Test.cells ⟨n,false,true,x⟩) (Jf _ _ rfl (by decide)) fun t ht=> ?_
  obtain⟨ht,htr,htd⟩:=Ii hdr hd ht
  simp only[Q1,seval]
  refine VI ?_ ?_ ?_
  ·exact Ym
  ·exact(by repeat first|exact QK.refl _ _|refine QK.at ?_ _|refine QK.set ?_ (by assumption) (by simp))
  ·have hrt:r≠t:=fun e=>htr e.symm
   simp [Q3.upd,hdr.symm,Zs,hrt]
 ·have b2:=hb _ (by simp) h
  have:=b2.lt
  rw[fD g1,fC h]
  simp only[h,hz,hz',ho,ho',Q1,seval]
  refine Q2 (W6 G (s:=s) (u:=u1) (lo:=lo) (by rw[Q5 hdr.symm];exact Q0 ..) b1.at' (by omega)) ?_
  simp only[Q1,seval]
  refine QH (W9 G hG (by exact Q0 ..) b2.at' hs) (by repeat first|exact QK.refl _ _|refine QK.at ?_ _|refine QK.set ?_ (by assumption) (by simp)) fun x u3 h3=> ?_
  simp only[Qp,Q5 hdr,Q5 hdr.symm,Q1,seval]
  refine QY (cs:=Test.cells ⟨n,false,false,x⟩) (Jf _ _ rfl (by decide)) fun t ht=> ?_
  obtain⟨ht,htr,htd⟩:=Ii hdr hd ht
  simp only[Q1,seval]
  refine VI ?_ ?_ ?_
  ·exact Ym
  ·exact(by repeat first|exact QK.refl _ _|refine QK.at ?_ _|refine QK.set ?_ (by assumption) (by simp))
  ·have hrt:r≠t:=fun e=>htr e.symm
   simp [Q3.upd,hdr.symm,Zs,hrt]
 ·have b2:=hb _ (by simp) h
  have:=b2.lt
  rw[fD g1,fD g2,fC h]
  simp only[h,hz,hz',ho,ho',Q1,seval]
  refine Q2 (W6 G (s:=s) (u:=u1) (lo:=lo) (by rw[Q5 hdr.symm];exact Q0 ..) b1.at' (by omega)) ?_
  simp only[Q1,seval]
  refine QH (W9 G hG (by exact Q0 ..) b2.at' hs) (by repeat first|exact QK.refl _ _|refine QK.at ?_ _|refine QK.set ?_ (by assumption) (by simp)) fun x u3 h3=> ?_
  simp only[Qp,Q5 hdr,Q5 hdr.symm,Q1,seval]
  refine QY (cs:=Test.cells ⟨n,true,true,x⟩) (Jf _ _ rfl (by decide)) fun t ht=> ?_
  obtain⟨ht,htr,htd⟩:=Ii hdr hd ht
  simp only[Q1,seval]
  refine VI ?_ ?_ ?_
  ·exact Ym
  ·exact(by repeat first|exact QK.refl _ _|refine QK.at ?_ _|refine QK.set ?_ (by assumption) (by simp))
  ·have hrt:r≠t:=fun e=>htr e.symm
   simp [Q3.upd,hdr.symm,Zs,hrt]
 ·have b2:=hb _ (by simp) h
  have:=b2.lt
  rw[fD g1,fD g2,fD g3,fC h]
  simp only[h,hz,hz',ho,ho',Q1,seval]
  refine Q2 (W6 G (s:=s) (u:=u1) (lo:=lo) (by rw[Q5 hdr.symm];exact Q0 ..) b1.at' (by omega)) ?_
  simp only[Q1,seval]
  refine QH (W9 G hG (by exact Q0 ..) b2.at' hs) (by repeat first|exact QK.refl _ _|refine QK.at ?_ _|refine QK.set ?_ (by assumption) (by simp)) fun x u3 h3=> ?_
  simp only[Qp,Q5 hdr,Q5 hdr.symm,Q1,seval]
  refine QY (cs:=Test.cells ⟨n,true,false,x⟩) (Jf _ _ rfl (by decide)) fun t ht=> ?_
  obtain⟨ht,htr,htd⟩:=Ii hdr hd ht
  simp only[Q1,seval]
  refine VI ?_ ?_ ?_
  ·exact Ym
  ·exact(by repeat first|exact QK.refl _ _|refine QK.at ?_ _|refine QK.set ?_ (by assumption) (by simp))
  ·have hrt:r≠t:=fun e=>htr e.symm
   simp [Q3.upd,hdr.symm,Zs,hrt]
 ·have b2:=hb _ (by simp) h
  have:=b2.lt
  rw[fD g1,fD g2,fD g3,fD g4,fC h]
  refine Q2 (W6 G (s:=s) (u:=u1) (lo:=lo) (by rw[Q5 hdr.symm];exact Q0 ..) b1.at' (by omega)) ?_
  simp only[Q1,seval]
  refine QH (W9 G hG (by exact Q0 ..) b2.at' hs) (by repeat first|exact QK.refl _ _|refine QK.at ?_ _|refine QK.set ?_ (by assumption) (by simp)) fun x u3 h3=> ?_
  simp only[Qp,Q5 hdr,Q5 hdr.symm,Q1,seval]
  intro e he
  obtain⟨he,her,hed⟩:=Ii hdr hd he
  simp only[Q5 hdr,Q5 hdr.symm,Q5 hed,Q5 hed.symm,Q1,seval]
  refine QY (cs:=Test.cells ⟨n,false,false,x⟩++Test.cells ⟨n,true,false,x⟩) (vD rfl rfl) fun t ht=> ?_
  obtain⟨hte,ht⟩:=Q9 ht
  obtain⟨ht,htr,htd⟩:=Ii hdr hd ht
  simp only[Q1,seval]
  refine VI ?_ ?_ ?_
  ·exact Ym
  ·exact(by repeat first|exact QK.refl _ _|refine QK.at ?_ _|refine QK.set ?_ (by assumption) (by simp))
  ·have hrt:r≠t:=fun e=>htr e.symm
   simp [Q3.upd,hdr.symm,her.symm,Zs,hrt]
 ·rw[fD g1,fD g2,fD g3,fD g4,fD g5]
  exact ML (PX G (lo0:=lo) (big:=(Zs:Unit→Bool)) (enc:=fun _=>ZK) (by rw[Q5 hdr.symm];exact Q0 ..)) (by repeat first|exact QK.refl _ _|refine QK.at ?_ _|refine QK.set ?_ (by assumption) (by simp))
end
open Go.RowKit
section
variable (G:Nat→Option (List AV))
theorem f272 {n:Nat}(hn:n≤10000000)(A:Q3):Qt Tryz.prog G 272 [.raw (.slice none 0 0),i64 n] A fun o A'=>
 (o=.ret (.raw (.slice none 0 0))∧A'=A)∨∃t,A t=none∧o=.ret (.slice 4 0 [] (some t))∧A'=A.upd t (some .tip):=
 ⟨by kernel_rfl,fun κ w hr vs hvs=>by
  obtain⟨x,y,rfl,hx,hy⟩:=Xi hvs
  rw[Y0 hx,Y0 hy]
  rcases Nat.eq_zero_or_pos n with rfl|hp
  ·refine(Any8.slices_Grow_room Tryz.growT none 0 0 0 w (by omega) (by omega) (by omega) (by omega)).mono ?_
   rintro e w' ⟨rfl,rfl⟩
   exact⟨κ,A,.ret (.raw (.slice none 0 0)),hr,Step.refl _ _ _,⟨_,rfl,by simp [Qc]⟩,.inl ⟨rfl,rfl⟩⟩
  ·obtain⟨i0,z,hi,hz,hs,hb,hc⟩:∃i0 z,Tryz.prog.info? (Tryz.growT_ren.t 25)=some i0∧i0.zero=some z∧i0.size=4∧i0.bytes≤1000∧z.cells.size=4:=by
    have key:(Tryz.prog.info? (Tryz.growT_ren.t 25)).map (fun i=>(i.size,decide (i.bytes≤1000),i.zero.map fun z=>z.cells.size))=some (4,true,some 4):=by kernel_rfl
    cases h:Tryz.prog.info? (Tryz.growT_ren.t 25)with
    |none=>rw[h]at key;cases key
    |some i0=>
     rw[h]at key
     simp only[cO,cA,cW,dZ]at key
     obtain⟨k1,k2,k3⟩:=key
     cases hz:i0.zero with
     |none=>rw[hz]at k3;cases k3
     |some z=>rw[hz]at k3;exact⟨i0,z,rfl,hz,k1,k2,by simpa using k3⟩
   refine(Any8.slices_Grow_grow Tryz.growT i0 z hi hz (by omega) none 0 0 n [] w (by omega) (by omega) (by have:=Nat.mul_le_mul hn hb;rw[lN];omega) (by omega) (by simp) (fun _=>rfl) (fun _ h=>by cases h)).mono ?_
   rintro e w' ⟨rfl,rfl⟩
   have hg:=grownCap_ge w (0+n) 0 (Tryz.growT_ren.t 25)
   generalize grownCap w (0+n) 0 (Tryz.growT_ren.t 25)=cap at*
   have h1:Rel G κ A w.drew:=Rel.heap (w:=w) rfl hr
   obtain⟨κ',t',g1,g2,_,g3,g4,g5⟩:=h1.newSlice (sz:=4) (n:=0) (cap:=cap) (cs:=[]) (us:=[]) (arr:=([]:List Value).toArray++Builtin.zeroCells z.cells (0+n - 0)++Builtin.zeroCells z.cells (cap - (0+n))) (el:=Tryz.growT_ren.t 25) rfl (by simp) (by simp) (by omega) (by
    simp only[Array.size_append,size_zeroCells,hc,List.size_toArray,cL];omega)
   refine⟨κ',_,.ret (.slice 4 0 [] (some t')),g3,?_,⟨_,rfl,g5⟩,.inr ⟨t',g2,rfl,rfl⟩⟩
   exact(Step.heap (w:=w) (w':=w.drew) rfl rfl rfl rfl).trans g4⟩
end
end Go.Proofs.YtcbjbgaefighcaaGreatDoor
namespace Go.Proofs.YtcbjbgaefighcaaGreatDoor
open Go Go.Ax Go.Proofs
theorem KJ:∀{L:List (List Test)},(∀l∈L,l.length≤2)→L.flatten.length≤2*L.length
 |[],_=>by simp
 |l::L,h=>by
  have h1:=h l (by simp)
  have h2:=KJ (L:=L) fun l hl=>h l (by simp [hl])
  simp only[List.flatten_cons,cC,cE];omega
def Bi (A:Q3)(l:List Test)(v:AV)(B:Q3):Prop:=(v=.raw (.slice none 0 0)∧l=[]∧B=A)∨∃t,v=.slice 4 l.length (l.flatMap Test.cells) (some t)∧A t=none∧B t=some .tip∧Z7 A B
section
variable (G:Nat→Option (List AV))
theorem c251 {A:Q3}(L:List (List Test))(hL:L.length≤20000)(hT:∀l∈L,l.length≤2):
 Qu Tryz.prog G 251 [Qy 1 (fun l=>(Qy 4 Test.cells l).cells) L] A (Qy 4 Test.cells L.flatten) A:=by
 refine Q4 l251 (fE rfl) ?_
 simp only[BA,Qy,Q1,seval]
 have hel:∀(pre:List (List Test)) l post,L=pre++l::post→(L.flatMap fun l=>[AV.slice 4 l.length (l.flatMap Test.cells) none])[pre.length]? =some (AV.slice 4 l.length (l.flatMap Test.cells) none):=by
  intro pre l post h
  have:(L.flatMap fun l=>[AV.slice 4 l.length (l.flatMap Test.cells) none])=L.map fun l=>AV.slice 4 l.length (l.flatMap Test.cells) none:=(List.map_eq_flatMap ..).symm
  rw[this,h];simp
 refine Qv (fun n env ds A'=>∃pre post,L=pre++post∧n=post.length∧env 0=.slice 1 L.length (L.flatMap fun l=>[AV.slice 4 l.length (l.flatMap Test.cells) none]) none∧env 9=env 0∧env 10=i64 L.length∧env 11=i64 pre.length∧env 3=i64 pre.flatten.length∧ds=[]∧A'=A) L.length
  ⟨[],L,rfl,rfl,rfl,rfl,rfl,rfl,rfl,rfl,rfl⟩ ?_
 rintro n env ds A' ⟨pre,post,hpp,rfl,e0,e9,e10,e11,e3,rfl,rfl⟩
 have hlen:(pre.length:Int)+post.length=L.length:=by rw[hpp];simp
 have hfl:pre.flatten.length≤40000:=by
  have:=KJ (L:=pre) fun l hl=>hT l (by rw[hpp];simp [hl])
  omega
 rw[e0]at e9
 cases post with
 |cons l post=>
  have hlt:((pre.length:Int)<L.length):=by simp at hlen;omega
  have h2:=hT l (by rw[hpp];simp)
  have e1:IntKind.i64.wrap ((pre.flatten.length:Int)+l.length)=((pre++[l]).flatten.length:Nat):=by rw[Qg (by omega) (by omega)];simp
  have e2:IntKind.i64.wrap ((pre.length:Int)+1)=((pre++[l]).length:Nat):=by rw[Qg (by omega) (by omega)];simp
  have hz:¬(((pre++[l]).flatten.length:Nat):Int)<0:=by omega
  simp only[e0,e9,e10,e11,e3,Q1,seval]
  refine⟨fun _=>⟨hlt,JY (v:=AV.slice 4 l.length (l.flatMap Test.cells) none) ?_ ?_⟩,fun h=>absurd hlt h⟩
  ·have:=hel pre l post hpp
   simpa using this
  simp only[e0,e9,e10,e11,e3,e1,hz,W0,fB hz,Q1,seval]
  simp only[decide_false,cB,false_implies,true_implies,true_and]
  exact⟨post.length,by simp,pre++[l],post,by simp [hpp],rfl,by simp only[e2,AV.raw.injEq],rfl⟩
 |nil=>
  have hlt:¬((pre.length:Int)<L.length):=by simp at hlen;omega
  have hpl:L=pre:=by rw[hpp];simp
  subst hpl
  simp only[e0,e9,e10,e11,e3,Q1,seval]
  refine⟨fun h=>absurd h hlt,fun _=> ?_⟩
  refine Qk (f272 G (by omega) A') ?_
  intro o B h
  obtain⟨v,rfl,hv⟩:∃v,o=.ret v∧Bi A' [] v B:=by
   rcases h with⟨rfl,rfl⟩|⟨t,ht,rfl,rfl⟩
   ·exact⟨_,rfl,.inl ⟨rfl,rfl,rfl⟩⟩
   ·exact⟨_,rfl,.inr ⟨t,rfl,ht,Q0 ..,(Z7.refl _).set ht (by simp)⟩⟩
  simp only[e0,Q1,seval]
  refine Qv (fun n env ds B=>∃pre post,L=pre++post∧n=post.length∧env 25=.slice 1 L.length (L.flatMap fun l=>[AV.slice 4 l.length (l.flatMap Test.cells) none]) none∧env 26=i64 L.length∧env 27=i64 pre.length∧ds=[]∧Bi A' pre.flatten (env 6) B) L.length
   ⟨[],L,rfl,rfl,rfl,rfl,rfl,rfl,hv⟩ ?_
  rintro n env ds B2 ⟨pre,post,hpp,rfl,e25,e26,e27,rfl,hc⟩
  have hlen:(pre.length:Int)+post.length=L.length:=by rw[hpp];simp
  cases post with
  |cons l post=>
   have hlt:((pre.length:Int)<L.length):=by simp at hlen;omega
   have h2:=hT l (by rw[hpp];simp)
   have e2:IntKind.i64.wrap ((pre.length:Int)+1)=((pre++[l]).length:Nat):=by rw[Qg (by omega) (by omega)];simp
   simp only[e25,e26,e27,Q1,seval]
   refine⟨fun _=>⟨hlt,JY (v:=AV.slice 4 l.length (l.flatMap Test.cells) none) ?_ ?_⟩,fun h=>absurd hlt h⟩
   ·have:=hel pre l post hpp
    simpa using this
   rcases hc with⟨e6,hn,rfl⟩|⟨t,e6,ht,hBt,ho⟩
   ·simp only[e25,e26,e27,e6,ZB,W2,Q1,seval]
    split
    ·rename_i h0
     exact⟨post.length,by simp,pre++[l],post,by simp [hpp],rfl,by simp only[e2],.inl ⟨rfl,by rw[List.flatten_append,hn];simpa using h0,rfl⟩⟩
    ·exact⟨by omega,fun t ht=>⟨post.length,by simp,pre++[l],post,by simp [hpp],rfl,by simp only[e2],.inr ⟨t,by rw[List.flatten_append,hn];simp,ht,Q0 ..,(Z7.refl _).set ht (by simp)⟩⟩⟩
   ·simp only[e25,e26,e27,e6,ZB,V9,Q1,seval]
    have hfl:pre.flatten.length≤40000:=by
     have:=KJ (L:=pre) fun l hl=>hT l (by rw[hpp];simp [hl])
     omega
    refine⟨hBt,by omega,?_,fun t' ht'=> ?_⟩
    ·simp [cH,Test.cells,AV.one,Value.oneCell']
    ·exact⟨post.length,by simp,pre++[l],post,by simp [hpp],rfl,by simp only[e2],.inr ⟨t',by rw[List.flatten_append];simp,ho.gone ht',Q0 ..,(ho.set ht (by simp)).set (ho.gone ht') (by simp)⟩⟩
  |nil=>
   have hlt:¬((pre.length:Int)<L.length):=by simp at hlen;omega
   have hpl:L=pre:=by rw[hpp];simp
   subst hpl
   simp only[e25,e26,e27,Q1,seval]
   refine⟨fun h=>absurd h hlt,fun _=> ?_⟩
   rcases hc with⟨e6,hn,rfl⟩|⟨t,e6,ht,hBt,ho⟩
   ·simp only[e6,Q1,seval]
    rw[hn]
    exact Uh Jm (Z7.refl _)
   ·simp only[e6,Q1,seval]
    exact Uh Ym ho
theorem G3 {u u':Bs}{l:List Test}(h:Wf u=.ok l u'):l.length≤2:=by
 obtain⟨n,u1,h1,h⟩:=bind_ok h
 split at h
 ·obtain⟨c,u2,h2,h⟩:=bind_ok h;cases h;simp
 ·split at h
  ·obtain⟨c,u2,h2,h⟩:=bind_ok h;cases h;simp
  ·split at h
   ·obtain⟨c,u2,h2,h⟩:=bind_ok h;cases h;simp
   ·split at h
    ·obtain⟨c,u2,h2,h⟩:=bind_ok h;cases h;simp
    ·split at h
     ·obtain⟨c,u2,h2,h⟩:=bind_ok h;cases h;simp
     ·cases h
theorem So {α:Type}{sep:Bs}{one:Bs→Res α}(hs:sep≠[])(h1:Tk one){s:Bs}{Q:α→Prop}(hq:∀u a u',one u=.ok a u'→Q a):∀f l u l' u',At s u→(∀a∈l,Q a)→J9 sep one f l u=.ok l' u'→l'.length+u'.length≤l.length+u.length∧∀a∈l',Q a
 |0,l,u,l',u',hu,hl,h=>by cases h
 |f+1,l,u,l',u',hu,hl,h=>by
  simp only[J9]at h
  split at h
  ·rename_i hc
   have b1:=Beh.adv hu hc hs
   obtain⟨x,u1,h2,h3⟩:=bind_ok h
   have b2:=h1 _ _ _ _ b1.at' h2
   obtain⟨k1,k2⟩:=So hs h1 hq f _ _ _ _ b2.at' (fun a ha=>by
    simp only[fW,dV]at ha
    rcases ha with ha|rfl
    ·exact hl a ha
    ·exact hq _ _ _ h2) h3
   have:=b1.lt
   have:=b2.lt
   simp only[cC,cQ]at k1
   exact⟨by omega,k2⟩
  ·cases h;exact⟨fG _,hl⟩
theorem KC {α:Type}{sep:Bs}{one:Bs→Res α}(hs:sep≠[])(h1:Tk one){s:Bs}{Q:α→Prop}(hq:∀u a u',one u=.ok a u'→Q a){f:Nat}{u u':Bs}{l:List α}(hu:At s u)(h:ZV sep one f u=.ok l u'):l.length+u'.length≤u.length∧∀a∈l,Q a:=by
 obtain⟨x,u1,h2,h3⟩:=bind_ok h
 have b:=h1 _ _ _ _ hu h2
 obtain⟨k1,k2⟩:=So hs h1 hq f _ _ _ _ b.at' (fun a ha=>by
  simp only[dV]at ha;subst ha;exact hq _ _ _ h2) h3
 have:=b.lt
 simp only[cQ]at k1
 exact⟨by omega,k2⟩
theorem CG (hG:Gl G){f:Nat}{A:Q3}{r:Nat}{s u:Bs}{lo:Bool}(hr:A r=some (rd s u lo))(hu:At s u)(hs:s.length≤20000)(hf:u.length<f):
 Qt Tryz.prog G 221 [.ptr r 0] A (Jo r s A lo Zs (Qy 4 Test.cells) (X6 f u)):=by
 refine Q4 l221 (fE rfl) ?_
 simp only[BU,Q1,seval]
 simp only[X6]
 refine QH (n252 G (one:=Wf) (big:=Zs) (enc:=fun l=>Qy 4 Test.cells l) (fn:=253) (first:=[.ptr r 0]) (cap:=[]) hr hu hs (by decide) hf (fun A' u' lo' _ hr' hu' _=>n253 G hG hr' hu' hs) H4 (fun _=>rfl) (fun _=>rfl)) (by repeat first|exact QK.refl _ _|refine QK.at ?_ _|refine QK.set ?_ (by assumption) (by simp)) fun l u1 h1=> ?_
 obtain⟨k1,k2⟩:=KC (by decide) H4 (fun _ _ _=>G3) hu h1
 have:=hu.le
 simp only[US,cT,Q1,seval]
 refine Q2 (c251 G l (by omega) k2) ?_
 simp only[Q1,seval]
 exact VI (Wk.refl _) (by repeat first|exact QK.refl _ _|refine QK.at ?_ _|refine QK.set ?_ (by assumption) (by simp)) (by rw[Qp];exact Q0 ..)
end
end Go.Proofs.YtcbjbgaefighcaaGreatDoor
