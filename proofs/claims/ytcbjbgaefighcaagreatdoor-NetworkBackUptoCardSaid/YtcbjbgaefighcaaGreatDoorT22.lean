/- Part 22 of the proof. -/
import Derived.Test.YtcbjbgaefighcaaGreatDoorT0
import Derived.Test.YtcbjbgaefighcaaGreatDoorT11
import Derived.Test.YtcbjbgaefighcaaGreatDoorT21
set_option linter.all false
namespace Go.Proofs.YtcbjbgaefighcaaGreatDoor
open Go Go.Ax Go.Proofs
def XO (m:Nat):List (AV×AV):=[(.str Kw,.func (.func 161) [.ptr m 0] []),(.str VE,.func (.func 162) [.ptr m 0] []),(.str J7,.func (.func 163) [.ptr m 0] []),(.str Zq,.func (.func 164) [.ptr m 0] []),(.str Jr,.func (.func 165) [.ptr m 0] [])]
theorem kD {A:Q3}{m r:Nat}{s:Bs}{M:Model}{u:Bs}{lo:Bool}{B:Q3}(h:Mk A m r s M u lo B){k:Nat}{o:Option AObj}(hk:B k=none)(hn:K7 B k):Mk A m r s M u lo (B.upd k o):={
 ovr:=h.ovr.map (h.ovr.gone hk) hn o
 nr:=h.nr
 nm:=h.nm
 hr:=by rw[Q5 (Q6 h.hr hk),h.hr]
 hm:=by
  obtain⟨v1,v2,v3,v4,v5,t1,t2,t3,t4,t5,h1,h2,h3⟩:=h.hm
  exact⟨v1,v2,v3,v4,v5,t1,t2,t3,t4,t5,by rw[Q5 (Q6 h1 hk),h1],h2,h3.new _ hk⟩}
theorem Uk {f:FuncId}{a b:List AV}:Qf .neq (.nilc .f true) (.func (.func f) a b) (.raw .nilFunc)=some (.raw (.bool true)):=Eq.trans rfl rfl
theorem Ul:Qf .neq (.nilc .f true) (Zi .nilFunc) (.raw .nilFunc)=some (.raw (.bool false)):=Eq.trans rfl rfl
theorem MJ {N:Nat}{b g:Bool}{s u u':Bs}{l:List Chan}(hu:At s u)(h:ZM N b g u=.ok l u'):Beh s u u'∧l.length+u'.length≤u.length:=by
 refine⟨F4 _ _ _ _ hu h,?_⟩
 obtain⟨x,u1,h1,h2⟩:=bind_ok h
 cases h2
 have:=(KC (by decide) QM (Q:=fun _=>True) (fun _ _ _ _=>trivial) hu h1).1
 simpa using this
theorem O1 {N:Nat}{b g:Bool}{s u u':Bs}{l:List Chan}(hu:At s u)(h:((Ql J7 u).bind fun _ u1=>(ZM N b g u1).bind fun l u2=>.ok l u2)=.ok l u'):Beh s u u'∧l.length+u'.length≤u.length:=by
 obtain⟨x,u1,h1,h2⟩:=bind_ok h
 obtain⟨y,u2,h3,h4⟩:=bind_ok h2
 cases h4
 have b:=Qn (by decide) _ _ _ _ hu h1
 have c:=MJ b.at' h3
 have:=b.lt
 exact⟨b.trans c.1.beq,by have:=c.2;omega⟩
theorem PO {N:Nat}{s u u':Bs}{l:List Chan}(hu:At s u)(h:(if cur u=Zq then(Ql J7 (adv u)).bind fun _ u1=>(ZM N true true u1).bind fun l u2=>.ok l u2 else(Ql J7 u).bind fun _ u1=>(ZM N true false u1).bind fun l u2=>.ok l u2)=.ok l u'):Beh s u u'∧l.length+u'.length≤u.length:=by
 split at h
 ·rename_i hc
  have b:=Beh.adv hu hc (by decide)
  have c:=O1 b.at' h
  have:=b.lt
  exact⟨b.trans c.1.beq,by have:=c.2;omega⟩
 ·exact O1 hu h
section
variable (G:Nat→Option (List AV))
theorem n82 {B:Q3}{m:Nat}:Qt Tryz.prog G 82 [.ptr m 0] B fun o B'=>∃p,o=.ret (.map p)∧B p=none∧K7 B p∧B'=B.upd p (some (.mp (XO m))):=by
 refine Q4 l82 (fE rfl) ?_
 simp only[C82,QJ,seval]
 intro p hp np
 refine V5 np rfl ?_
 simp only[QJ,seval]
 refine V5 np rfl ?_
 simp only[QJ,seval]
 refine V5 np rfl ?_
 simp only[QJ,seval]
 refine V5 np rfl ?_
 simp only[QJ,seval]
 refine V5 np rfl ?_
 simp only[ZR,seval]
 exact J0 (Wk.refl _) (U2.refl _) ⟨p,rfl,hp,np,rfl⟩
def H0 (X:Model):Model:={X with funcs:=X.funcs.filter Z1}
def IC (X:Model):Bool:=X.funcs.any (fun f=> !Z1 f)||X.procs.any Vk
def Wr:Model:=⟨[],[],[],[],[],[]⟩
theorem n24 (hG:Gl G){N:Nat}{A B:Q3}{m r:Nat}{s u:Bs}(h:Mk A m r s Wr u false B)(hu:At s u)(hs:s.length≤20000)(hN:10*u.length+11≤N):
 Qt Tryz.prog G 24 [.ptr m 0] B (Ut A m r s false IC H0 (X7 N u)):=by
 obtain⟨v1,v2,v3,v4,v5,t1,t2,t3,t4,t5,h1,h2,h3⟩:=h.hm
 have hmr:=h.ne
 refine Q4 l24 (fE rfl) ?_
 simp only[X7]
 simp only[yA,h1,Q1,seval]
 refine Jt (YQ G h.hr hu (by omega)) h.ovr h.nr fun _ u1 g1=> ?_
 have b1:=Qn (by decide) _ _ _ _ hu g1
 have:=b1.lt
 have h:=h.red (u':=u1) (lo':=false)
 have h1:=(Qa B r (some (rd s u1 false)) hmr).trans h1
 have h3:=h3.upd (some (rd s u1 false)) (k:=r) (by simp)
 rw[Qp]
 generalize B.upd r (some (rd s u1 false))=B at*
 simp only[h1,Q1,seval]
 refine Jt (WR G h.hr b1.at' (by omega)) h.ovr h.nr fun n u2 g2=> ?_
 have b2:=QM _ _ _ _ b1.at' g2
 have:=b2.lt
 have h:=h.red (u':=u2) (lo':=false)
 have h1:=(Qa B r (some (rd s u2 false)) hmr).trans h1
 have h3:=h3.upd (some (rd s u2 false)) (k:=r) (by simp)
 rw[Qp]
 generalize B.upd r (some (rd s u2 false))=B at*
 simp only[h1,Q1,seval]
 have hh:Mk A m r s {Wr with name:=n} u2 false (B.upd m (some (.cells [.ptr r 0,.str n,v1,v2,v3,v4,v5]))):=
  ⟨h.ovr.set h.nm (by simp),h.nr,h.nm,by rw[Q5 hmr.symm,h.hr],v1,v2,v3,v4,v5,t1,t2,t3,t4,t5,Q0 ..,⟨h2.clocks,h2.vars,h2.chans,h2.funcs,h2.procs⟩,h3.upd _ (by simp)⟩
 have h1:(B.upd m (some (.cells [.ptr r 0,.str n,v1,v2,v3,v4,v5]))) m=_:=Q0 ..
 clear h h3
 have h:=hh
 clear hh
 generalize(B.upd m (some (.cells [.ptr r 0,.str n,v1,v2,v3,v4,v5])))=B at*
 refine Jt (YQ G h.hr b2.at' (by omega)) h.ovr h.nr fun _ u3 g3=> ?_
 have b3:=Qn (by decide) _ _ _ _ b2.at' g3
 have:=b3.lt
 have h:=h.red (u':=u3) (lo':=false)
 rw[Qp]
 clear h1 h2
 generalize B.upd r (some (rd s u3 false))=B at*
 simp only[H9,Oz]
 refine Qd (fun env ds A'=>∃d u4,Jc N N ⟨[],[],[]⟩ u3=.ok d u4∧env 0=.ptr m 0∧ds=[]∧At s u4∧u4.length≤u3.length∧Mk A m r s ⟨n,d.clocks,d.vars,d.chans,[],[]⟩ u4 false A') ?_ ?_
 ·simp only[Q1,seval]
  refine Qk (n82 G) ?_
  rintro o B' ⟨p,rfl,hp,np,rfl⟩
  have hAp:=h.ovr.gone hp
  have nAp:=h.ovr.noIt np
  have h:=h.base (es0:=XO m) hp
  generalize B.upd p (some (.mp (XO m)))=B at*
  simp only[Q1,seval]
  refine Qv (fun k env ds B=>∃(d:Decls) (u':Bs) (f':Nat),k=u'.length∧env 0=.ptr m 0∧env 2=.map p∧ds=[]∧At s u'∧d.clocks.length+d.vars.length+d.chans.length+u'.length≤u3.length∧
   Mk (A.upd p (some (.mp (XO m)))) m r s ⟨n,d.clocks,d.vars,d.chans,[],[]⟩ u' false B∧u'.length<f'∧Jc N N ⟨[],[],[]⟩ u3=Jc N f' d u') u3.length
   ⟨⟨[],[],[]⟩,u3,N,rfl,rfl,rfl,rfl,b3.at',by simp,h,by omega,rfl⟩ ?_
  rintro k env ds B ⟨d,u',f',rfl,e0,e2,rfl,hu',hlen,h,hf',hR⟩
  obtain⟨f',rfl⟩:∃g,f'=g+1:=⟨f' - 1,by omega⟩
  have:=hu.le
  have hpm:=h.ovr.keep (Q0 A p (some (.mp (XO m))))
  have hnr:=(Q9 h.nr).2
  obtain⟨v1,v2,v3,v4,v5,t1,t2,t3,t4,t5,h1,h2,h3⟩:=h.hm
  rw[hR]
  simp only[e0,e2,h1,Q1,seval]
  refine Q2 (KN G h.hr hu') ?_
  by_cases q161:cur u'=Kw
  ·have b0:=Beh.adv hu' q161 (by decide)
   have:=b0.lt
   have hF:VN (.str (cur u')) (XO m)=some (some (.func (.func 161) [.ptr m 0] [])):=by rw[q161];rfl
   have hD:Jc N (f'+1) d u'=((ZV [44] Za N (adv u')).bind fun l u1=>.ok ⟨l,[],[]⟩ u1).bind fun x u1=>(Ql [59] u1).bind fun _ u2=>Jc N f' (d.add x) u2:=by
    simp only[Jc,Yp,fC q161]
   rw[hD]
   simp only[e0,e2,h1,hpm,YS,hF,Uk,Ul,Q1,seval]
   refine Q2 (KN G h.hr hu') ?_
   simp only[e0,e2,h1,hpm,YS,hF,Uk,Ul,Q1,seval]
   refine Q2 (W6 G h.hr hu' (by omega)) ?_
   have h:=h.red (u':=adv u') (lo':=false)
   generalize B.upd r (some (rd s (adv u') false))=B at*
   have hcall:=n161 G (f:=N) h b0.at' hs (by omega) (by simp only;omega)
   generalize hX:(ZV [44] Za N (adv u'))=X at hcall⊢
   simp only[Zk,Q7]
   simp only[e0,Q1,seval]
   refine KF hcall (fun B' ho=>ho.unbase hAp nAp) fun x w1 B1 hx h=> ?_
   rw[←hX]at hx
   have bx:Beh s (adv u') w1∧x.length+w1.length≤(adv u').length:=⟨VU (by decide) QM _ _ _ _ b0.at' hx,(KC (by decide) QM (Q:=fun _=>True) (fun _ _ _ _=>trivial) b0.at' hx).1⟩
   have:=bx.1.lt
   simp only[Qp]at h
   obtain⟨v1,v2,v3,v4,v5,t1,t2,t3,t4,t5,h1,h2,h3⟩:=h.hm
   simp only[e0,h1,Q1,seval]
   refine Jt (YQ G h.hr bx.1.at' (by omega)) (h.ovr.unbase hAp nAp) hnr fun _ w2 hy=> ?_
   have by2:=Qn (by decide) _ _ _ _ bx.1.at' hy
   have:=by2.lt
   have hbx:=bx.2
   have h:=h.red (u':=w2) (lo':=false)
   rw[Qp]
   simp only[e0,e2,Q1,seval]
   exact⟨w2.length,by omega,d.add ⟨x,[],[]⟩,w2,f',rfl,by2.at',by simp only[Decls.add,cC,cL,cQ];omega,by simpa only[Decls.add,cN]using h,by omega,by rw[←hX,hx];simp only[Q7];rw[hy];rfl⟩
  by_cases q162:cur u'=VE
  ·have b0:=Beh.adv hu' q162 (by decide)
   have:=b0.lt
   have hF:VN (.str (cur u')) (XO m)=some (some (.func (.func 162) [.ptr m 0] [])):=by rw[q162];rfl
   have hD:Jc N (f'+1) d u'=((Iy (adv u')).bind fun v u1=>.ok ⟨[],[v],[]⟩ u1).bind fun x u1=>(Ql [59] u1).bind fun _ u2=>Jc N f' (d.add x) u2:=by
    simp only[Jc,Yp,fD q161,fC q162]
   rw[hD]
   simp only[e0,e2,h1,hpm,YS,hF,Uk,Ul,Q1,seval]
   refine Q2 (KN G h.hr hu') ?_
   simp only[e0,e2,h1,hpm,YS,hF,Uk,Ul,Q1,seval]
   refine Q2 (W6 G h.hr hu' (by omega)) ?_
   have h:=h.red (u':=adv u') (lo':=false)
   generalize B.upd r (some (rd s (adv u') false))=B at*
   have hcall:=n162 G hG h b0.at' hs (by simp only;omega)
   generalize hX:(Iy (adv u'))=X at hcall⊢
   simp only[Zk,Q7]
   simp only[e0,Q1,seval]
   refine KF hcall (fun B' ho=>ho.unbase hAp nAp) fun x w1 B1 hx h=> ?_
   rw[←hX]at hx
   have bx:Beh s (adv u') w1∧1+w1.length≤(adv u').length:=⟨N8 _ _ _ _ b0.at' hx,by have:=(N8 _ _ _ _ b0.at' hx).lt;omega⟩
   have:=bx.1.lt
   simp only[Qp]at h
   obtain⟨v1,v2,v3,v4,v5,t1,t2,t3,t4,t5,h1,h2,h3⟩:=h.hm
   simp only[e0,h1,Q1,seval]
   refine Jt (YQ G h.hr bx.1.at' (by omega)) (h.ovr.unbase hAp nAp) hnr fun _ w2 hy=> ?_
   have by2:=Qn (by decide) _ _ _ _ bx.1.at' hy
   have:=by2.lt
   have hbx:=bx.2
   have h:=h.red (u':=w2) (lo':=false)
   rw[Qp]
   simp only[e0,e2,Q1,seval]
   exact⟨w2.length,by omega,d.add ⟨[],[x],[]⟩,w2,f',rfl,by2.at',by simp only[Decls.add,cC,cL,cQ];omega,by simpa only[Decls.add,cN]using h,by omega,by rw[←hX,hx];simp only[Q7];rw[hy];rfl⟩
  by_cases q163:cur u'=J7
  ·have b0:=Beh.adv hu' q163 (by decide)
   have:=b0.lt
   have hF:VN (.str (cur u')) (XO m)=some (some (.func (.func 163) [.ptr m 0] [])):=by rw[q163];rfl
   have hD:Jc N (f'+1) d u'=((ZM N false false (adv u')).bind fun l u1=>.ok ⟨[],[],l⟩ u1).bind fun x u1=>(Ql [59] u1).bind fun _ u2=>Jc N f' (d.add x) u2:=by
    simp only[Jc,Yp,fD q161,fD q162,fC q163]
   rw[hD]
   simp only[e0,e2,h1,hpm,YS,hF,Uk,Ul,Q1,seval]
   refine Q2 (KN G h.hr hu') ?_
   simp only[e0,e2,h1,hpm,YS,hF,Uk,Ul,Q1,seval]
   refine Q2 (W6 G h.hr hu' (by omega)) ?_
   have h:=h.red (u':=adv u') (lo':=false)
   generalize B.upd r (some (rd s (adv u') false))=B at*
   have hcall:=n163 G (f:=N) h b0.at' hs (by omega) (by simp only;omega)
   generalize hX:(ZM N false false (adv u'))=X at hcall⊢
   simp only[Zk,Q7]
   simp only[e0,Q1,seval]
   refine KF hcall (fun B' ho=>ho.unbase hAp nAp) fun x w1 B1 hx h=> ?_
   rw[←hX]at hx
   have bx:=MJ b0.at' hx
   have:=bx.1.lt
   simp only[Qp]at h
   obtain⟨v1,v2,v3,v4,v5,t1,t2,t3,t4,t5,h1,h2,h3⟩:=h.hm
   simp only[e0,h1,Q1,seval]
   refine Jt (YQ G h.hr bx.1.at' (by omega)) (h.ovr.unbase hAp nAp) hnr fun _ w2 hy=> ?_
   have by2:=Qn (by decide) _ _ _ _ bx.1.at' hy
   have:=by2.lt
   have hbx:=bx.2
   have h:=h.red (u':=w2) (lo':=false)
   rw[Qp]
   simp only[e0,e2,Q1,seval]
   exact⟨w2.length,by omega,d.add ⟨[],[],x⟩,w2,f',rfl,by2.at',by simp only[Decls.add,cC,cL,cQ];omega,by simpa only[Decls.add,cN]using h,by omega,by rw[←hX,hx];simp only[Q7];rw[hy];rfl⟩
  by_cases q164:cur u'=Zq
  ·have b0:=Beh.adv hu' q164 (by decide)
   have:=b0.lt
   have hF:VN (.str (cur u')) (XO m)=some (some (.func (.func 164) [.ptr m 0] [])):=by rw[q164];rfl
   have hD:Jc N (f'+1) d u'=(((Ql J7 (adv u')).bind fun _ u1=>(ZM N false true u1).bind fun l u2=>.ok l u2).bind fun l u2=>.ok ⟨[],[],l⟩ u2).bind fun x u1=>(Ql [59] u1).bind fun _ u2=>Jc N f' (d.add x) u2:=by
    simp only[Jc,Yp,fD q161,fD q162,fD q163,fC q164]
    first|rfl|(simp only[Zk,Q7];done)|(split <;> simp only[Zk,Q7])
   rw[hD]
   simp only[e0,e2,h1,hpm,YS,hF,Uk,Ul,Q1,seval]
   refine Q2 (KN G h.hr hu') ?_
   simp only[e0,e2,h1,hpm,YS,hF,Uk,Ul,Q1,seval]
   refine Q2 (W6 G h.hr hu' (by omega)) ?_
   have h:=h.red (u':=adv u') (lo':=false)
   generalize B.upd r (some (rd s (adv u') false))=B at*
   have hcall:=n164 G (f:=N) h b0.at' hs (by omega) (by simp only;omega)
   generalize hX:((Ql J7 (adv u')).bind fun _ u1=>(ZM N false true u1).bind fun l u2=>.ok l u2)=X at hcall⊢
   simp only[Zk,Q7]
   simp only[e0,Q1,seval]
   refine KF hcall (fun B' ho=>ho.unbase hAp nAp) fun x w1 B1 hx h=> ?_
   rw[←hX]at hx
   have bx:=O1 b0.at' hx
   have:=bx.1.lt
   simp only[Qp]at h
   obtain⟨v1,v2,v3,v4,v5,t1,t2,t3,t4,t5,h1,h2,h3⟩:=h.hm
   simp only[e0,h1,Q1,seval]
   refine Jt (YQ G h.hr bx.1.at' (by omega)) (h.ovr.unbase hAp nAp) hnr fun _ w2 hy=> ?_
   have by2:=Qn (by decide) _ _ _ _ bx.1.at' hy
   have:=by2.lt
   have hbx:=bx.2
   have h:=h.red (u':=w2) (lo':=false)
   rw[Qp]
   simp only[e0,e2,Q1,seval]
   exact⟨w2.length,by omega,d.add ⟨[],[],x⟩,w2,f',rfl,by2.at',by simp only[Decls.add,cC,cL,cQ];omega,by simpa only[Decls.add,cN]using h,by omega,by rw[←hX,hx];simp only[Q7];rw[hy];rfl⟩
  by_cases q165:cur u'=Jr
  ·have b0:=Beh.adv hu' q165 (by decide)
   have:=b0.lt
   have hF:VN (.str (cur u')) (XO m)=some (some (.func (.func 165) [.ptr m 0] [])):=by rw[q165];rfl
   have hD:Jc N (f'+1) d u'=((if cur (adv u')=Zq then(Ql J7 (adv (adv u'))).bind fun _ u1=>(ZM N true true u1).bind fun l u2=>.ok l u2 else(Ql J7 (adv u')).bind fun _ u1=>(ZM N true false u1).bind fun l u2=>.ok l u2).bind fun l u2=>.ok ⟨[],[],l⟩ u2).bind fun x u1=>(Ql [59] u1).bind fun _ u2=>Jc N f' (d.add x) u2:=by
    simp only[Jc,Yp,fD q161,fD q162,fD q163,fD q164,fC q165]
    first|rfl|(simp only[Zk,Q7];done)|(split <;> simp only[Zk,Q7])
   rw[hD]
   simp only[e0,e2,h1,hpm,YS,hF,Uk,Ul,Q1,seval]
   refine Q2 (KN G h.hr hu') ?_
   simp only[e0,e2,h1,hpm,YS,hF,Uk,Ul,Q1,seval]
   refine Q2 (W6 G h.hr hu' (by omega)) ?_
   have h:=h.red (u':=adv u') (lo':=false)
   generalize B.upd r (some (rd s (adv u') false))=B at*
   have hcall:=n165 G (f:=N) h b0.at' hs (by omega) (by simp only;omega)
   generalize hX:(if cur (adv u')=Zq then(Ql J7 (adv (adv u'))).bind fun _ u1=>(ZM N true true u1).bind fun l u2=>.ok l u2 else(Ql J7 (adv u')).bind fun _ u1=>(ZM N true false u1).bind fun l u2=>.ok l u2)=X at hcall⊢
   simp only[Zk,Q7]
   simp only[e0,Q1,seval]
   refine KF hcall (fun B' ho=>ho.unbase hAp nAp) fun x w1 B1 hx h=> ?_
   rw[←hX]at hx
   have bx:=PO b0.at' hx
   have:=bx.1.lt
   simp only[Qp]at h
   obtain⟨v1,v2,v3,v4,v5,t1,t2,t3,t4,t5,h1,h2,h3⟩:=h.hm
   simp only[e0,h1,Q1,seval]
   refine Jt (YQ G h.hr bx.1.at' (by omega)) (h.ovr.unbase hAp nAp) hnr fun _ w2 hy=> ?_
   have by2:=Qn (by decide) _ _ _ _ bx.1.at' hy
   have:=by2.lt
   have hbx:=bx.2
   have h:=h.red (u':=w2) (lo':=false)
   rw[Qp]
   simp only[e0,e2,Q1,seval]
   exact⟨w2.length,by omega,d.add ⟨[],[],x⟩,w2,f',rfl,by2.at',by simp only[Decls.add,cC,cL,cQ];omega,by simpa only[Decls.add,cN]using h,by omega,by rw[←hX,hx];simp only[Q7];rw[hy];rfl⟩
  have hF:VN (.str (cur u')) (XO m)=some none:=by
   simp only[XO,VN,beq_eq_false_iff_ne.2 q161,beq_eq_false_iff_ne.2 q162,beq_eq_false_iff_ne.2 q163,beq_eq_false_iff_ne.2 q164,beq_eq_false_iff_ne.2 q165,beq_eq_false_iff_ne.2,ne_eq,not_false_eq_true,cB,if_false]
  have hD:Jc N (f'+1) d u'=.ok d u':=by simp only[Jc,Yp,fD q161,fD q162,fD q163,fD q164,fD q165]
  rw[hD]
  simp only[e0,e2,h1,hpm,YS,hF,Uk,Ul,Q1,seval]
  exact⟨d,u',rfl,hu',by omega,h.unbase hAp nAp⟩
 rintro env ds B ⟨d,u4,hd,e0,rfl,hu4,hle4,h⟩
 simp only[hd,Q7]
 have hle1:u4.length≤s.length:=hu4.le
 refine Qd (fun env ds A'=>∃fs u5,U6 N N [] u4=.ok fs u5∧env 0=.ptr m 0∧ds=[]∧At s u5∧u5.length≤u4.length∧Mk A m r s ⟨n,d.clocks,d.vars,d.chans,fs.filter Z1,[]⟩ u5 (fs.any fun f=> !Z1 f) A') ?_ ?_
 ·simp only[Q1,seval]
  refine Qv (fun k env ds B=>∃(l:List Func) (u':Bs) (f':Nat),k=u'.length∧env 0=.ptr m 0∧ds=[]∧At s u'∧l.length+u'.length≤u4.length∧
   Mk A m r s ⟨n,d.clocks,d.vars,d.chans,l.filter Z1,[]⟩ u' (l.any fun f=> !Z1 f) B∧u'.length<f'∧U6 N N [] u4=U6 N f' l u') u4.length
   ⟨[],u4,N,rfl,e0,rfl,hu4,by simp,h,by omega,rfl⟩ ?_
  clear h
  rintro k env ds B ⟨l,u',f',rfl,e0,rfl,hu',hlen,h,hf',hR⟩
  obtain⟨f',rfl⟩:∃g,f'=g+1:=⟨f' - 1,by omega⟩
  obtain⟨v1,v2,v3,v4,v5,t1,t2,t3,t4,t5,h1,h2,h3⟩:=h.hm
  rw[hR]
  simp only[e0,h1,Q1,seval]
  refine Q2 (KN G h.hr hu') ?_
  simp only[U6]
  by_cases hq:cur u'=VL
  ·rw[fC hq]
   simp only[VL]at hq
   have hqt:(cur u'=[102,117,110,99])=True:=eq_true hq
   simp only[e0,hqt,Q1,seval]
   obtain⟨x,a,e,hx,hcase⟩:∃x a e,Ud s (Ux ⟨[],[],[]⟩) Ux Z1 (V4 N u')=.tuple [Ux x,i64 a,i64 e]∧((∃w,V4 N u'=.ok x w∧Z1 x=true∧a=(s.length - w.length:Nat)∧e=0)∨
    (∃y w,V4 N u'=.ok y w∧Z1 y=false∧e=3)∨(∃w,V4 N u'=.bad w∧a=(s.length - w.length:Nat)∧e=80)):=by
    cases hR:V4 N u' with
    |ok y w=>
     cases hs:Z1 y with
     |true=>exact⟨y,_,_,by simp only[Ud,hs,if_true],.inl ⟨w,rfl,hs,rfl,rfl⟩⟩
     |false=>exact⟨⟨[],[],[]⟩,0,3,by simp only[Ud,hs,cB,if_false],.inr (.inl ⟨y,w,rfl,hs,rfl⟩)⟩
    |bad w=>exact⟨⟨[],[],[]⟩,_,_,rfl,.inr (.inr ⟨w,rfl,rfl,rfl⟩)⟩
   obtain⟨xn,xp,xb⟩:=x
   unfold BD
   refine Qd (fun env ds A'=>∃c,env 0=.ptr m 0∧env 4=.ptr c 0∧env 5=i64 a∧env 6=i64 e∧ds=[]∧B c=none∧A'=B.upd c (some (.cells (Func.cells ⟨xn,xp,xb⟩)))) ?_ ?_
   ·have hr1:=h.hr
    rw[Ke]at hr1
    simp only[e0,h1,hr1,Q1,seval]
    refine⟨?_,?_⟩
    ·refine Q2 (c84 G hG (f:=N) hu' hs (by omega)) ?_
     rw[hx]
     simp only[e0,Ux,Func.cells,Qy,Q1,seval]
     intro c hc
     simp only[e0,Q5 (Q6 h1 hc),Q5 (Q6 hr1 hc),h1,hr1,QW,Q1,seval]
     exact⟨c,rfl,hc,rfl⟩
    ·intro c hc
     simp only[e0,Q5 (Q6 h1 hc),Q5 (Q6 hr1 hc),h1,hr1,QW,Q1,seval]
     refine Q2 (c84 G hG (f:=N) hu' hs (by omega)) ?_
     rw[hx]
     simp only[e0,Ux,Func.cells,Qy,Q1,seval]
     exact⟨c,rfl,hc,rfl⟩
   rintro env ds B1 ⟨c,e0,e4,e5,e6,rfl,hc,rfl⟩
   have hAc:=h.ovr.gone hc
   have hmc:=Q6 h1 hc
   have hrc:=Q6 h.hr hc
   have h:=h.new (o:=some (.cells (Func.cells ⟨xn,xp,xb⟩))) hc (by simp)
   have h1:=(Qa B c (some (.cells (Func.cells ⟨xn,xp,xb⟩))) hmc).trans h1
   have h3:=h3.new (some (.cells (Func.cells ⟨xn,xp,xb⟩))) hc
   have hcc:(B.upd c (some (.cells (Func.cells ⟨xn,xp,xb⟩)))) c=some (.cells (Func.cells ⟨xn,xp,xb⟩)):=Q0 ..
   generalize B.upd c (some (.cells (Func.cells ⟨xn,xp,xb⟩)))=B at*
   rcases hcase with⟨w,hF,hsm,rfl,rfl⟩|⟨y,w,hF,hsm,rfl⟩|⟨w,hF,rfl,rfl⟩
   ·have bw:=LN _ _ _ _ hu' hF
    have:=bw.lt
    simp only[hF,Q7]
    simp only[e0,e4,e5,e6,h1,Q1,seval]
    refine Q2 (n86 G h.hr bw.at' hs) ?_
    have h:=h.red (u':=w) (lo':=l.any fun f=> !Z1 f)
    have h1:=(Qa B r (some (rd s w (l.any fun f=> !Z1 f))) hmr).trans h1
    have h3:=h3.upd (some (rd s w (l.any fun f=> !Z1 f))) (k:=r) (by simp)
    have hcc:=(Qa B r (some (rd s w (l.any fun f=> !Z1 f))) hrc.symm).trans hcc
    generalize B.upd r (some (rd s w (l.any fun f=> !Z1 f)))=B at*
    simp only[Func.cells,Qy]at hcc
    simp only[e0,e4,e5,e6,h1,hcc,QW,Q1,seval]
    refine QY (cs:=Func.cells ⟨xn,xp,xb⟩) (Jf _ _ rfl (by decide)) fun t ht=> ?_
    have hcc:=(Qa B t (some .tip) (Q6 hcc ht)).trans hcc
    have h:=h.new (o:=some .tip) ht (by simp)
    have h1:=(Qa B t (some .tip) (Q6 h1 ht)).trans h1
    have h3:=h3.new (some .tip) ht
    generalize B.upd t (some .tip)=B at*
    simp only[e0,e4,h1,QW,ZB,Q1,seval]
    have hfl:(l.filter Z1).length≤l.length:=List.length_filter_le ..
    refine KG (enc:=Func.cells) (i:=3) h2.funcs h3 rfl h.ovr (by simp only[dT,dL,or_false];rintro k (rfl|rfl);exact⟨_,h.hr⟩;exact⟨_,h1⟩) (by simp only;omega) rfl fun v' τ' B' q1 q2 q3 q4=> ?_
    have h4:=q4 m _ h1 (by simp)
    have h5:=q4 r _ h.hr (by simp [rd,Zz])
    simp only[e0,h4,QW,q1.cells,q1.one,Q1,seval]
    refine⟨w.length,by omega,l++[⟨xn,xp,xb⟩],w,f',rfl,bw.at',by simp only[cC,cQ];omega,?_,by omega,rfl⟩
    have e1:(l++[(⟨xn,xp,xb⟩:Func)]).filter Z1=l.filter Z1++[⟨xn,xp,xb⟩]:=by rw[List.filter_append];simp [hsm]
    have e2:((l++[(⟨xn,xp,xb⟩:Func)]).any fun f=> !Z1 f)=l.any fun f=> !Z1 f:=by simp [hsm]
    rw[e1,e2]
    exact⟨q3.set h.nm (by simp),h.nr,h.nm,by rw[Q5 hmr.symm,h5],v1,v2,v3,v',v5,t1,t2,t3,τ',t5,Q0 ..,⟨h2.clocks,h2.vars,h2.chans,q1,h2.procs⟩,q2.upd _ (by simp)⟩
   ·have bw:=LN _ _ _ _ hu' hF
    have:=bw.lt
    have hr1:=h.hr
    rw[Ke]at hr1
    simp only[hF,Q7]
    have hrw:AObj.cells [AV.str s,i64 (s.length - u'.length:Nat),i64 (s.length - u'.length+Z4 u':Nat),AV.raw (Value.bool true)]=rd s u' true:=rfl
    simp only[e0,e4,e5,e6,h1,hr1,hrw,Q5 hmr,Q1,seval]
    have h:=h.red (u':=u') (lo':=true)
    generalize B.upd r (some (rd s u' true))=B at*
    refine Qk (n85 G hG (f:=N) h.hr hu' hs (by omega)) ?_
    intro o A' hk
    rw[hF,V8]at hk
    obtain⟨rfl,rfl⟩:=hk
    simp only[e0,Q1,seval]
    have h:=h.red (u':=w) (lo':=true)
    refine⟨w.length,by omega,l++[y],w,f',rfl,bw.at',by simp only[cC,cQ];omega,?_,by omega,rfl⟩
    have e1:(l++[y]).filter Z1=l.filter Z1:=by rw[List.filter_append];simp [hsm]
    have e2:((l++[y]).any fun f=> !Z1 f)=true:=by simp [hsm]
    rw[e1,e2]
    exact h
   ·simp only[hF,OY]
    simp only[e0,e4,e5,e6,h1,Q1,seval]
    exact Jt (R:=(.bad w:Res Unit)) (k:=fun _ _=>.bad w) (CD (enc:=fun(_:Unit)=>ZK) (lo0:=false) (big:=Zs) G h.hr) h.ovr h.nr (fun _ _ h=>by cases h)
  ·rw[fD hq]
   simp only[VL]at hq
   have hqt:(cur u'=[102,117,110,99])=False:=eq_false hq
   simp only[e0,hqt,Q1,seval]
   exact⟨l,u',rfl,hu',by omega,h⟩
 clear h
 rintro env ds B ⟨fs,u5,hfs,e0,rfl,hu5,hle5,h⟩
 simp only[hfs,Q7]
 refine Qd (fun env ds A'=>∃ps u6,Jg ZQ (Xp N) N [] u5=.ok ps u6∧env 0=.ptr m 0∧ds=[]∧At s u6∧Mk A m r s ⟨n,d.clocks,d.vars,d.chans,fs.filter Z1,ps⟩ u6 ((fs.any fun f=> !Z1 f)||ps.any Vk) A') ?_ ?_
 ·simp only[Q1,seval]
  refine Qv (fun k env ds B=>∃(l:List Proc) (u':Bs) (f':Nat),k=u'.length∧env 0=.ptr m 0∧ds=[]∧At s u'∧l.length+u'.length≤u5.length∧
   Mk A m r s ⟨n,d.clocks,d.vars,d.chans,fs.filter Z1,l⟩ u' ((fs.any fun f=> !Z1 f)||l.any Vk) B∧u'.length<f'∧Jg ZQ (Xp N) N [] u5=Jg ZQ (Xp N) f' l u') u5.length
   ⟨[],u5,N,rfl,e0,rfl,hu5,by simp,by simpa using h,by omega,rfl⟩ ?_
  clear h
  rintro k env ds B ⟨l,u',f',rfl,e0,rfl,hu',hlen,h,hf',hR⟩
  obtain⟨f',rfl⟩:∃g,f'=g+1:=⟨f' - 1,by omega⟩
  obtain⟨v1,v2,v3,v4,v5,t1,t2,t3,t4,t5,h1,h2,h3⟩:=h.hm
  rw[hR]
  simp only[e0,h1,Q1,seval]
  refine Q2 (YV G h.hr hu' hs) ?_
  by_cases hq:cur u'=ZQ
  ·have b0:=Beh.adv hu' hq (by decide)
   have:=b0.lt
   rw[HM hq]
   have h:=h.red (u':=adv u') (lo':=(fs.any fun f=> !Z1 f)||l.any Vk)
   simp only[ZQ]at hq
   simp only[fA hq,fC hq,e0,Q1,seval]
   generalize B.upd r (some (rd s (adv u') ((fs.any fun f=> !Z1 f)||l.any Vk)))=B at*
   obtain⟨v1,v2,v3,v4,v5,t1,t2,t3,t4,t5,h1,h2,h3⟩:=h.hm
   unfold BC
   simp only[e0,Q1,seval]
   simp only[Zk]
   refine Jt (n88 G hG (f:=N) h1 h.hr b0.at' hs (by omega)) h.ovr h.nr fun x w hx=> ?_
   have bw:=EV _ _ _ _ b0.at' hx
   have:=bw.lt
   have h:=h.red (u':=w) (lo':=(fs.any fun f=> !Z1 f)||l.any Vk||Vk x)
   have h1:=(Qa B r (some (rd s w ((fs.any fun f=> !Z1 f)||l.any Vk||Vk x))) hmr).trans h1
   have h3:=h3.upd (some (rd s w ((fs.any fun f=> !Z1 f)||l.any Vk||Vk x))) (k:=r) (by simp)
   generalize B.upd r (some (rd s w ((fs.any fun f=> !Z1 f)||l.any Vk||Vk x)))=B at*
   obtain⟨p1,p2,p3,p4,hp⟩:∃p1 p2 p3 p4,Ks x=⟨p1,p2,p3,p4⟩:=⟨_,_,_,_,rfl⟩
   simp only[e0,hp,Proc.cells,Qy,Q1,seval]
   intro c hc
   have hAc:=h.ovr.gone hc
   have hmc:=Q6 h1 hc
   have hrc:=Q6 h.hr hc
   have h:=h.new (o:=some (.cells [.str p1,.str p2,.slice 4 p3.length (p3.flatMap Loc.cells) none,.slice 13 p4.length (p4.flatMap Edge.cells) none])) hc (by simp)
   have h1:=(Qa B c (some (.cells [.str p1,.str p2,.slice 4 p3.length (p3.flatMap Loc.cells) none,.slice 13 p4.length (p4.flatMap Edge.cells) none])) hmc).trans h1
   have h3:=h3.new (some (.cells [.str p1,.str p2,.slice 4 p3.length (p3.flatMap Loc.cells) none,.slice 13 p4.length (p4.flatMap Edge.cells) none])) hc
   have hcc:(B.upd c (some (.cells [.str p1,.str p2,.slice 4 p3.length (p3.flatMap Loc.cells) none,.slice 13 p4.length (p4.flatMap Edge.cells) none]))) c=some (.cells [.str p1,.str p2,.slice 4 p3.length (p3.flatMap Loc.cells) none,.slice 13 p4.length (p4.flatMap Edge.cells) none]):=Q0 ..
   generalize B.upd c (some (.cells [.str p1,.str p2,.slice 4 p3.length (p3.flatMap Loc.cells) none,.slice 13 p4.length (p4.flatMap Edge.cells) none]))=B at*
   simp only[e0,h1,hcc,QW,Q1,seval]
   refine QY (cs:=(Ks x).cells) (by rw[hp];exact Jf _ (.agg (Proc.cells ⟨p1,p2,p3,p4⟩)) rfl (by decide)) fun t ht=> ?_
   have hcc:=(Qa B t (some .tip) (Q6 hcc ht)).trans hcc
   have h:=h.new (o:=some .tip) ht (by simp)
   have h1:=(Qa B t (some .tip) (Q6 h1 ht)).trans h1
   have h3:=h3.new (some .tip) ht
   generalize B.upd t (some .tip)=B at*
   simp only[e0,h1,QW,ZB,Q1,seval]
   have:=hu5.le
   refine KG (enc:=fun p=>(Ks p).cells) (i:=4) h2.procs h3 rfl h.ovr (by simp only[dT,dL,or_false];rintro k (rfl|rfl);exact⟨_,h.hr⟩;exact⟨_,h1⟩) (by simp only;omega) (by rw[hp];rfl) fun v' τ' B' q1 q2 q3 q4=> ?_
   have h4:=q4 m _ h1 (by simp)
   have h5:=q4 r _ h.hr (by simp [rd,Zz])
   simp only[e0,h4,QW,q1.cells,q1.one,Q1,seval]
   refine⟨w.length,by omega,l++[x],w,f',rfl,bw.at',by simp only[cC,cQ];omega,?_,by omega,by rw[hx];rfl⟩
   have e2:((fs.any fun f=> !Z1 f)||(l++[x]).any Vk)=((fs.any fun f=> !Z1 f)||l.any Vk||Vk x):=by simp [dK]
   rw[e2]
   exact⟨q3.set h.nm (by simp),h.nr,h.nm,by rw[Q5 hmr.symm,h5],v1,v2,v3,v4,v',t1,t2,t3,t4,τ',Q0 ..,⟨h2.clocks,h2.vars,h2.chans,h2.funcs,q1⟩,q2.upd _ (by simp)⟩
  ·rw[LV hq]
   have h:=h.red (u':=u') (lo':=(fs.any fun f=> !Z1 f)||l.any Vk)
   simp only[ZQ]at hq
   simp only[fB hq,fD hq,e0,Q1,seval]
   exact⟨l,u',rfl,hu',h⟩
 clear h
 rintro env ds B ⟨ps,u6,hps,e0,rfl,hu6,h⟩
 simp only[hps,Q7]
 obtain⟨v1,v2,v3,v4,v5,t1,t2,t3,t4,t5,h1,h2,h3⟩:=h.hm
 have hr1:=h.hr
 rw[Ke]at hr1
 by_cases hn:u6=[]
 ·subst hn
  have hlt:¬(((s.length - 0:Nat):Int)<s.length):=by simp
  rw[fC rfl]
  simp only[e0,h1,hr1,W0,fB hlt,QW,QQ,Q1,seval]
  refine WV ?_
  simpa only[H0,IC,cZ]using h
 ·have hlt:(((s.length - u6.length:Nat):Int)<s.length):=by have:=hu6.le;have:=List.length_pos_iff.2 hn;omega
  rw[fD hn]
  simp only[e0,h1,hr1,W0,fA hlt,QW,Q1,seval]
  exact Jt (R:=(.bad u6:Res Unit)) (k:=fun _ _=>.bad u6) (PX G (lo0:=false) (big:=(Zs:Unit→Bool)) (enc:=fun _=>ZK) h.hr) h.ovr h.nr (fun _ _ h=>by cases h)
end
def ZS {α:Type}(p:α→Bool):Nat→List α→Int
 |_,[]=> -1
 |n,x::xs=>if p x then n else ZS p (n+1) xs
theorem XM {α:Type}(p:α→Bool):∀(n:Nat) (l:List α),(0≤ZS p n l)↔l.any p=true
 |n,[]=>by simp [ZS]
 |n,x::xs=>by
  simp only[ZS,List.any_cons,lA]
  split
  ·rename_i h;simp [h]
  ·rename_i h;rw[XM p (n+1) xs];simp [h]
section
variable (G:Nat→Option (List AV))
theorem k188 {α:Type}{A:Q3}{xs:List α}{v:α→AV}(hc:∀x,(v x).cells=[v x]){p:α→Bool}{fn:FuncId}{n:Nat}{cs:List AV}{t:Option Nat}(hn:n=xs.length)(hcs:cs=xs.flatMap (fun x=>[v x]))(hlen:xs.length<2^62)(hp:∀x∈xs,Qu Tryz.prog G fn [v x] A (bo (p x)) A):
 Qu Tryz.prog G 188 [.slice 1 n cs t,.func (.func fn) [] []] A (i64 (ZS p 0 xs)) A:=by
 subst hn hcs
 refine Q4 l188 (fE rfl) ?_
 simp only[Ap,Q1,seval]
 refine Qv (fun k env ds A'=>∃pre post,xs=pre++post∧k=post.length∧env 0=.slice 1 xs.length (xs.flatMap (fun x=>[v x])) t∧env 1=.func (.func fn) [] []∧env 7=i64 xs.length∧env 8=i64 pre.length∧ds=[]∧A'=A∧ZS p 0 xs=ZS p pre.length post) xs.length
  ⟨[],xs,rfl,rfl,rfl,rfl,rfl,rfl,rfl,rfl,rfl⟩ ?_
 rintro k env ds A' ⟨pre,post,hpp,rfl,e0,e1,e7,e8,rfl,rfl,hF⟩
 have hl:(pre.length:Int)+post.length=xs.length:=by rw[hpp];simp
 cases post with
 |nil=>
  have hlt:¬((pre.length:Int)<xs.length):=by simp at hl;omega
  simp only[e0,e1,e7,e8,Q1,seval]
  refine⟨fun h=>absurd h hlt,fun _=> ?_⟩
  rw[hF]
  exact Qx rfl (U2.refl _)
 |cons x post=>
  have hlt:((pre.length:Int)<xs.length):=by simp at hl;omega
  have e2:IntKind.i64.wrap ((pre.length:Int)+1)=((pre++[x]).length:Nat):=by rw[Qg (by omega) (by omega)];simp
  simp only[e0,e1,e7,e8,Q1,seval]
  refine⟨fun _=>⟨hlt,?_⟩,fun h=>absurd hlt h⟩
  refine JY (v:=v x) ?_ ?_
  ·have:(xs.flatMap fun x=>[v x])=xs.map v:=(List.map_eq_flatMap ..).symm
   rw[this,hpp];simp
  simp only[e0,e1,e7,e8,Q1,seval]
  refine Q2 (hp x (by rw[hpp];simp)) ?_
  cases hx:p x with
  |true=>
   simp only[e0,e1,e7,e8,e2,Q1,seval]
   have:ZS p 0 xs=pre.length:=by rw[hF];simp only[ZS,hx,if_true]
   rw[this]
   exact Qx rfl (U2.refl _)
  |false=>
   simp only[e0,e1,e7,e8,e2,Q1,seval]
   exact⟨post.length,by simp,pre++[x],post,by simp [hpp],rfl,rfl,by rw[hF];simp only[ZS,hx,cB,if_false,cC,cQ]⟩
theorem CU {α:Type}{A:Q3}{xs:List α}{v:α→AV}(hc:∀x,(v x).cells=[v x]){p:α→Bool}{fn:FuncId}{n:Nat}{cs:List AV}{t:Option Nat}(hn:n=xs.length)(hcs:cs=xs.flatMap (fun x=>[v x]))(hlen:xs.length<2^62)(hp:∀x∈xs,Qu Tryz.prog G fn [v x] A (bo (p x)) A):
 Qu Tryz.prog G 128 [.slice 1 n cs t,.func (.func fn) [] []] A (bo (xs.any p)) A:=by
 refine Q4 l128 (fE rfl) ?_
 simp only[qC,Q1,seval]
 refine Q2 (k188 G hc hn hcs hlen hp) ?_
 have e:=XM p 0 xs
 simp only[Q1,seval]
 refine⟨fun h=>Qx (by rw[e.1 h]) (U2.refl _),fun h=>Qx ?_ (U2.refl _)⟩
 cases hx:xs.any p with
 |true=>exact absurd (e.2 hx) h
 |false=>rfl
theorem k192 {α:Type}{A:Q3}{xs:List α}{v:α→AV}(hc:∀x,(v x).cells=[v x]){p:α→Bool}{fn:FuncId}{n:Nat}{cs:List AV}{t:Option Nat}(hn:n=xs.length)(hcs:cs=xs.flatMap (fun x=>[v x]))(hlen:xs.length<2^62)(hp:∀x∈xs,Qu Tryz.prog G fn [v x] A (bo (p x)) A):
 Qu Tryz.prog G 192 [.slice 1 n cs t,.func (.func fn) [] []] A (i64 (ZS p 0 xs)) A:=by
 subst hn hcs
 refine Q4 l192 (fE rfl) ?_
 simp only[Al,Q1,seval]
 refine Qv (fun k env ds A'=>∃pre post,xs=pre++post∧k=post.length∧env 0=.slice 1 xs.length (xs.flatMap (fun x=>[v x])) t∧env 1=.func (.func fn) [] []∧env 7=i64 xs.length∧env 8=i64 pre.length∧ds=[]∧A'=A∧ZS p 0 xs=ZS p pre.length post) xs.length
  ⟨[],xs,rfl,rfl,rfl,rfl,rfl,rfl,rfl,rfl,rfl⟩ ?_
 rintro k env ds A' ⟨pre,post,hpp,rfl,e0,e1,e7,e8,rfl,rfl,hF⟩
 have hl:(pre.length:Int)+post.length=xs.length:=by rw[hpp];simp
 cases post with
 |nil=>
  have hlt:¬((pre.length:Int)<xs.length):=by simp at hl;omega
  simp only[e0,e1,e7,e8,Q1,seval]
  refine⟨fun h=>absurd h hlt,fun _=> ?_⟩
  rw[hF]
  exact Qx rfl (U2.refl _)
 |cons x post=>
  have hlt:((pre.length:Int)<xs.length):=by simp at hl;omega
  have e2:IntKind.i64.wrap ((pre.length:Int)+1)=((pre++[x]).length:Nat):=by rw[Qg (by omega) (by omega)];simp
  simp only[e0,e1,e7,e8,Q1,seval]
  refine⟨fun _=>⟨hlt,?_⟩,fun h=>absurd hlt h⟩
  refine JY (v:=v x) ?_ ?_
  ·have:(xs.flatMap fun x=>[v x])=xs.map v:=(List.map_eq_flatMap ..).symm
   rw[this,hpp];simp
  simp only[e0,e1,e7,e8,Q1,seval]
  refine Q2 (hp x (by rw[hpp];simp)) ?_
  cases hx:p x with
  |true=>
   simp only[e0,e1,e7,e8,e2,Q1,seval]
   have:ZS p 0 xs=pre.length:=by rw[hF];simp only[ZS,hx,if_true]
   rw[this]
   exact Qx rfl (U2.refl _)
  |false=>
   simp only[e0,e1,e7,e8,e2,Q1,seval]
   exact⟨post.length,by simp,pre++[x],post,by simp [hpp],rfl,rfl,by rw[hF];simp only[ZS,hx,cB,if_false,cC,cQ]⟩
theorem k131 {α:Type}{A:Q3}{xs:List α}{v:α→AV}(hc:∀x,(v x).cells=[v x]){p:α→Bool}{fn:FuncId}{n:Nat}{cs:List AV}{t:Option Nat}(hn:n=xs.length)(hcs:cs=xs.flatMap (fun x=>[v x]))(hlen:xs.length<2^62)(hp:∀x∈xs,Qu Tryz.prog G fn [v x] A (bo (p x)) A):
 Qu Tryz.prog G 131 [.slice 1 n cs t,.func (.func fn) [] []] A (bo (xs.any p)) A:=by
 refine Q4 l131 (fE rfl) ?_
 simp only[qA,Q1,seval]
 refine Q2 (k192 G hc hn hcs hlen hp) ?_
 have e:=XM p 0 xs
 simp only[Q1,seval]
 refine⟨fun h=>Qx (by rw[e.1 h]) (U2.refl _),fun h=>Qx ?_ (U2.refl _)⟩
 cases hx:xs.any p with
 |true=>exact absurd (e.2 hx) h
 |false=>rfl
theorem k193 {α:Type}{A:Q3}{xs:List α}{enc:α→List AV}(hsz:∀x,(enc x).length=8){p:α→Bool}{fn:FuncId}{n:Nat}{cs:List AV}{t:Option Nat}(hn:n=xs.length)(hcs:cs=xs.flatMap enc)(hlen:xs.length<2^62)(hp:∀x∈xs,Qu Tryz.prog G fn [.agg (enc x)] A (bo (p x)) A):
 Qu Tryz.prog G 193 [.slice 8 n cs t,.func (.func fn) [] []] A (i64 (ZS p 0 xs)) A:=by
 subst hn hcs
 refine Q4 l193 (fE rfl) ?_
 simp only[Ak,Q1,seval]
 refine Qv (fun k env ds A'=>∃pre post,xs=pre++post∧k=post.length∧env 0=.slice 8 xs.length (xs.flatMap enc) t∧env 1=.func (.func fn) [] []∧env 7=i64 xs.length∧env 8=i64 pre.length∧ds=[]∧A'=A∧ZS p 0 xs=ZS p pre.length post) xs.length
  ⟨[],xs,rfl,rfl,rfl,rfl,rfl,rfl,rfl,rfl,rfl⟩ ?_
 rintro k env ds A' ⟨pre,post,hpp,rfl,e0,e1,e7,e8,rfl,rfl,hF⟩
 have hl:(pre.length:Int)+post.length=xs.length:=by rw[hpp];simp
 cases post with
 |nil=>
  have hlt:¬((pre.length:Int)<xs.length):=by simp at hl;omega
  simp only[e0,e1,e7,e8,Q1,seval]
  refine⟨fun h=>absurd h hlt,fun _=> ?_⟩
  rw[hF]
  exact Qx rfl (U2.refl _)
 |cons x post=>
  have hlt:((pre.length:Int)<xs.length):=by simp at hl;omega
  have e2:IntKind.i64.wrap ((pre.length:Int)+1)=((pre++[x]).length:Nat):=by rw[Qg (by omega) (by omega)];simp
  simp only[e0,e1,e7,e8,Q1,seval]
  refine⟨fun _=>⟨hlt,?_⟩,fun h=>absurd hlt h⟩
  have hd:(xs.flatMap enc).drop (pre.length*8)=enc x++post.flatMap enc:=by rw[hpp,Zg hsz];simp
  rw[hd,dM (hsz x)]
  refine⟨by simp [hsz],?_⟩
  refine Q2 (hp x (by rw[hpp];simp)) ?_
  cases hx:p x with
  |true=>
   simp only[e0,e1,e7,e8,e2,Q1,seval]
   have:ZS p 0 xs=pre.length:=by rw[hF];simp only[ZS,hx,if_true]
   rw[this]
   exact Qx rfl (U2.refl _)
  |false=>
   simp only[e0,e1,e7,e8,e2,Q1,seval]
   exact⟨post.length,by simp,pre++[x],post,by simp [hpp],rfl,rfl,by rw[hF];simp only[ZS,hx,cB,if_false,cC,cQ]⟩
theorem CT {α:Type}{A:Q3}{xs:List α}{enc:α→List AV}(hsz:∀x,(enc x).length=8){p:α→Bool}{fn:FuncId}{n:Nat}{cs:List AV}{t:Option Nat}(hn:n=xs.length)(hcs:cs=xs.flatMap enc)(hlen:xs.length<2^62)(hp:∀x∈xs,Qu Tryz.prog G fn [.agg (enc x)] A (bo (p x)) A):
 Qu Tryz.prog G 135 [.slice 8 n cs t,.func (.func fn) [] []] A (bo (xs.any p)) A:=by
 refine Q4 l135 (fE rfl) ?_
 simp only[AW,Q1,seval]
 refine Q2 (k193 G hsz hn hcs hlen hp) ?_
 have e:=XM p 0 xs
 simp only[Q1,seval]
 refine⟨fun h=>Qx (by rw[e.1 h]) (U2.refl _),fun h=>Qx ?_ (U2.refl _)⟩
 cases hx:xs.any p with
 |true=>exact absurd (e.2 hx) h
 |false=>rfl
theorem k266 {α:Type}{A:Q3}{xs:List α}{enc:α→List AV}(hsz:∀x,(enc x).length=4){p:α→Bool}{fn:FuncId}{n:Nat}{cs:List AV}{t:Option Nat}(hn:n=xs.length)(hcs:cs=xs.flatMap enc)(hlen:xs.length<2^62)(hp:∀x∈xs,Qu Tryz.prog G fn [.agg (enc x)] A (bo (p x)) A):
 Qu Tryz.prog G 266 [.slice 4 n cs t,.func (.func fn) [] []] A (i64 (ZS p 0 xs)) A:=by
 subst hn hcs
 refine Q4 l266 (fE rfl) ?_
 simp only[Bv,Q1,seval]
 refine Qv (fun k env ds A'=>∃pre post,xs=pre++post∧k=post.length∧env 0=.slice 4 xs.length (xs.flatMap enc) t∧env 1=.func (.func fn) [] []∧env 7=i64 xs.length∧env 8=i64 pre.length∧ds=[]∧A'=A∧ZS p 0 xs=ZS p pre.length post) xs.length
  ⟨[],xs,rfl,rfl,rfl,rfl,rfl,rfl,rfl,rfl,rfl⟩ ?_
 rintro k env ds A' ⟨pre,post,hpp,rfl,e0,e1,e7,e8,rfl,rfl,hF⟩
 have hl:(pre.length:Int)+post.length=xs.length:=by rw[hpp];simp
 cases post with
 |nil=>
  have hlt:¬((pre.length:Int)<xs.length):=by simp at hl;omega
  simp only[e0,e1,e7,e8,Q1,seval]
  refine⟨fun h=>absurd h hlt,fun _=> ?_⟩
  rw[hF]
  exact Qx rfl (U2.refl _)
 |cons x post=>
  have hlt:((pre.length:Int)<xs.length):=by simp at hl;omega
  have e2:IntKind.i64.wrap ((pre.length:Int)+1)=((pre++[x]).length:Nat):=by rw[Qg (by omega) (by omega)];simp
  simp only[e0,e1,e7,e8,Q1,seval]
  refine⟨fun _=>⟨hlt,?_⟩,fun h=>absurd hlt h⟩
  have hd:(xs.flatMap enc).drop (pre.length*4)=enc x++post.flatMap enc:=by rw[hpp,Zg hsz];simp
  rw[hd,dM (hsz x)]
  refine⟨by simp [hsz],?_⟩
  refine Q2 (hp x (by rw[hpp];simp)) ?_
  cases hx:p x with
  |true=>
   simp only[e0,e1,e7,e8,e2,Q1,seval]
   have:ZS p 0 xs=pre.length:=by rw[hF];simp only[ZS,hx,if_true]
   rw[this]
   exact Qx rfl (U2.refl _)
  |false=>
   simp only[e0,e1,e7,e8,e2,Q1,seval]
   exact⟨post.length,by simp,pre++[x],post,by simp [hpp],rfl,rfl,by rw[hF];simp only[ZS,hx,cB,if_false,cC,cQ]⟩
theorem k240 {α:Type}{A:Q3}{xs:List α}{enc:α→List AV}(hsz:∀x,(enc x).length=4){p:α→Bool}{fn:FuncId}{n:Nat}{cs:List AV}{t:Option Nat}(hn:n=xs.length)(hcs:cs=xs.flatMap enc)(hlen:xs.length<2^62)(hp:∀x∈xs,Qu Tryz.prog G fn [.agg (enc x)] A (bo (p x)) A):
 Qu Tryz.prog G 240 [.slice 4 n cs t,.func (.func fn) [] []] A (bo (xs.any p)) A:=by
 refine Q4 l240 (fE rfl) ?_
 simp only[BL,Q1,seval]
 refine Q2 (k266 G hsz hn hcs hlen hp) ?_
 have e:=XM p 0 xs
 simp only[Q1,seval]
 refine⟨fun h=>Qx (by rw[e.1 h]) (U2.refl _),fun h=>Qx ?_ (U2.refl _)⟩
 cases hx:xs.any p with
 |true=>exact absurd (e.2 hx) h
 |false=>rfl
end
end Go.Proofs.YtcbjbgaefighcaaGreatDoor
