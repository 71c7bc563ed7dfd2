/- Part 21 of the proof. -/
import Derived.Test.YtcbjbgaefighcaaGreatDoorT0
import Derived.Test.YtcbjbgaefighcaaGreatDoorT10
import Derived.Test.YtcbjbgaefighcaaGreatDoorT20
set_option linter.all false
namespace Go.Proofs.YtcbjbgaefighcaaGreatDoor
open Go Go.Ax Go.Proofs
section
variable (G:Nat→Option (List AV))
theorem n162 (hG:Gl G){A B:Q3}{m r:Nat}{s u:Bs}{M:Model}{lo:Bool}(h:Mk A m r s M u lo B)(hu:At s u)(hs:s.length≤20000)(hM:M.vars.length≤20000):
 Qt Tryz.prog G 162 [.ptr m 0] B (Ut A m r s lo Zs (fun v=>{M with vars:=M.vars++[v]}) (Iy u)):=by
 obtain⟨v1,v2,v3,v4,v5,t1,t2,t3,t4,t5,h1,h2,h3⟩:=h.hm
 have hmr:=h.ne
 refine Q4 l162 (fE rfl) ?_
 simp only[Iy]
 simp only[AG,h1,Q1,seval]
 refine Jt (WR G h.hr hu (by omega)) h.ovr h.nr fun n u1 g1=> ?_
 have b1:=QM _ _ _ _ hu g1
 have h:=h.red (u':=u1) (lo':=lo)
 have h1:=(Qa B r (some (rd s u1 (lo))) hmr).trans h1
 have h3:=h3.upd (some (rd s u1 (lo))) (k:=r) (by simp)
 rw[Qp]
 generalize B.upd r (some (rd s u1 (lo)))=B at*
 simp only[Q1,seval]
 intro c hc
 have hA:=h.ovr.gone hc
 have hmc:=Q6 h1 hc
 have hrc:=Q6 h.hr hc
 have h:=h.new (o:=some (.cells [.str n,i64 0,i64 0,i64 0])) hc (by simp)
 have h1:=(Qa B c (some (.cells [.str n,i64 0,i64 0,i64 0])) hmc).trans h1
 have h3:=h3.new (some (.cells [.str n,i64 0,i64 0,i64 0])) hc
 have hcc:(B.upd c (some (.cells [.str n,i64 0,i64 0,i64 0]))) c=some (.cells [.str n,i64 0,i64 0,i64 0]):=Q0 ..
 generalize B.upd c (some (.cells [.str n,i64 0,i64 0,i64 0]))=B at*
 simp only[h1,Q1,seval]
 refine Jt (YQ G h.hr b1.at' (by omega)) h.ovr h.nr fun _ u2 g2=> ?_
 have b2:=Qn (by decide) _ _ _ _ b1.at' g2
 have h:=h.red (u':=u2) (lo':=lo)
 have h1:=(Qa B r (some (rd s u2 (lo))) hmr).trans h1
 have h3:=h3.upd (some (rd s u2 (lo))) (k:=r) (by simp)
 have hcc:=(Qa B r (some (rd s u2 (lo))) hrc.symm).trans hcc
 rw[Qp]
 generalize B.upd r (some (rd s u2 (lo)))=B at*
 simp only[h1,Q1,seval]
 refine Jt (W9 G hG h.hr b2.at' hs) h.ovr h.nr fun lw u3 g3=> ?_
 have b3:=Oq _ _ _ _ b2.at' g3
 have h:=h.red (u':=u3) (lo':=lo)
 have h1:=(Qa B r (some (rd s u3 (lo))) hmr).trans h1
 have h3:=h3.upd (some (rd s u3 (lo))) (k:=r) (by simp)
 have hcc:=(Qa B r (some (rd s u3 (lo))) hrc.symm).trans hcc
 rw[Qp]
 generalize B.upd r (some (rd s u3 (lo)))=B at*
 simp only[hcc,Q1,seval]
 have h1:=(Qa B c (some (.cells [.str n,i64 lw,i64 0,i64 0])) hmc).trans h1
 have h:=h.loc (o:=some (.cells [.str n,i64 lw,i64 0,i64 0])) hA hcc hmc hrc (by simp)
 have h3:=h3.loc (some (.cells [.str n,i64 lw,i64 0,i64 0])) hcc (by simp)
 have hcc:(B.upd c (some (.cells [.str n,i64 lw,i64 0,i64 0]))) c=some (.cells [.str n,i64 lw,i64 0,i64 0]):=Q0 ..
 generalize B.upd c (some (.cells [.str n,i64 lw,i64 0,i64 0]))=B at*
 simp only[h1,Q1,seval]
 refine Jt (YQ G h.hr b3.at' (by omega)) h.ovr h.nr fun _ u4 g4=> ?_
 have b4:=Qn (by decide) _ _ _ _ b3.at' g4
 have h:=h.red (u':=u4) (lo':=lo)
 have h1:=(Qa B r (some (rd s u4 (lo))) hmr).trans h1
 have h3:=h3.upd (some (rd s u4 (lo))) (k:=r) (by simp)
 have hcc:=(Qa B r (some (rd s u4 (lo))) hrc.symm).trans hcc
 rw[Qp]
 generalize B.upd r (some (rd s u4 (lo)))=B at*
 simp only[h1,Q1,seval]
 refine Jt (W9 G hG h.hr b4.at' hs) h.ovr h.nr fun hg u5 g5=> ?_
 have b5:=Oq _ _ _ _ b4.at' g5
 have h:=h.red (u':=u5) (lo':=lo)
 have h1:=(Qa B r (some (rd s u5 (lo))) hmr).trans h1
 have h3:=h3.upd (some (rd s u5 (lo))) (k:=r) (by simp)
 have hcc:=(Qa B r (some (rd s u5 (lo))) hrc.symm).trans hcc
 rw[Qp]
 generalize B.upd r (some (rd s u5 (lo)))=B at*
 simp only[hcc,Q1,seval]
 have h1:=(Qa B c (some (.cells [.str n,i64 lw,i64 hg,i64 0])) hmc).trans h1
 have h:=h.loc (o:=some (.cells [.str n,i64 lw,i64 hg,i64 0])) hA hcc hmc hrc (by simp)
 have h3:=h3.loc (some (.cells [.str n,i64 lw,i64 hg,i64 0])) hcc (by simp)
 have hcc:(B.upd c (some (.cells [.str n,i64 lw,i64 hg,i64 0]))) c=some (.cells [.str n,i64 lw,i64 hg,i64 0]):=Q0 ..
 generalize B.upd c (some (.cells [.str n,i64 lw,i64 hg,i64 0]))=B at*
 simp only[h1,Q1,seval]
 refine Jt (YQ G h.hr b5.at' (by omega)) h.ovr h.nr fun _ u6 g6=> ?_
 have b6:=Qn (by decide) _ _ _ _ b5.at' g6
 have h:=h.red (u':=u6) (lo':=lo)
 have h1:=(Qa B r (some (rd s u6 (lo))) hmr).trans h1
 have h3:=h3.upd (some (rd s u6 (lo))) (k:=r) (by simp)
 have hcc:=(Qa B r (some (rd s u6 (lo))) hrc.symm).trans hcc
 rw[Qp]
 generalize B.upd r (some (rd s u6 (lo)))=B at*
 simp only[h1,Q1,seval]
 refine Jt (W9 G hG h.hr b6.at' hs) h.ovr h.nr fun it u7 g7=> ?_
 have b7:=Oq _ _ _ _ b6.at' g7
 have h:=h.red (u':=u7) (lo':=lo)
 have h1:=(Qa B r (some (rd s u7 (lo))) hmr).trans h1
 have h3:=h3.upd (some (rd s u7 (lo))) (k:=r) (by simp)
 have hcc:=(Qa B r (some (rd s u7 (lo))) hrc.symm).trans hcc
 rw[Qp]
 generalize B.upd r (some (rd s u7 (lo)))=B at*
 simp only[hcc,Q1,seval]
 have h1:=(Qa B c (some (.cells [.str n,i64 lw,i64 hg,i64 it])) hmc).trans h1
 have h:=h.loc (o:=some (.cells [.str n,i64 lw,i64 hg,i64 it])) hA hcc hmc hrc (by simp)
 have h3:=h3.loc (some (.cells [.str n,i64 lw,i64 hg,i64 it])) hcc (by simp)
 have hcc:(B.upd c (some (.cells [.str n,i64 lw,i64 hg,i64 it]))) c=some (.cells [.str n,i64 lw,i64 hg,i64 it]):=Q0 ..
 generalize B.upd c (some (.cells [.str n,i64 lw,i64 hg,i64 it]))=B at*
 simp only[h1,hcc,QW,Q1,seval]
 refine QY (cs:=Var.cells ⟨n,lw,hg,it⟩) (Jf _ _ rfl (by decide)) fun t ht=> ?_
 have hcc:=(Qa B t (some .tip) (Q6 hcc ht)).trans hcc
 have h:=h.new (o:=some .tip) ht (by simp)
 have h1:=(Qa B t (some .tip) (Q6 h1 ht)).trans h1
 have h3:=h3.new (some .tip) ht
 generalize B.upd t (some .tip)=B at*
 simp only[h1,QW,ZB,Q1,seval]
 refine KG (enc:=Var.cells) (i:=1) h2.vars h3 rfl h.ovr (by simp only[dT,dL,or_false];rintro k (rfl|rfl);exact⟨_,h.hr⟩;exact⟨_,h1⟩) (by omega) rfl fun v' τ' B' q1 q2 q3 q4=> ?_
 have h4:=q4 m _ h1 (by simp)
 have h5:=q4 r _ h.hr (by simp [rd,Zz])
 have h6:=q4 c _ hcc (by simp)
 simp only[h4,QW,q1.cells,q1.one,Q1,seval]
 exact WV ⟨q3.set h.nm (by simp),h.nr,h.nm,by rw[Q5 hmr.symm,h5,Qp],v1,v',v3,v4,v5,t1,τ',t3,t4,t5,Q0 ..,⟨h2.clocks,q1,h2.chans,h2.funcs,h2.procs⟩,q2.upd _ (by simp)⟩
theorem SY {A B:Q3}{m r:Nat}{s u:Bs}{M:Model}{lo:Bool}{f:Nat}{b g:Bool}(h:Mk A m r s M u lo B)(hu:At s u)(hs:s.length≤20000)(hf:u.length<f)(hM:M.chans.length+u.length≤20000):
 Qt Tryz.prog G 213 [.ptr m 0,.agg [.str [],bo b,bo g]] B (Ut A m r s lo Zs (fun l=>{M with chans:=M.chans++l}) (ZM f b g u)):=by
 obtain⟨v1,v2,v3,v4,v5,t1,t2,t3,t4,t5,h1,h2,h3⟩:=h.hm
 have hmr:=h.ne
 refine Q4 l213 (fE rfl) ?_
 simp only[ZM]
 simp only[A6,h1,Q1,seval]
 intro c hc
 have hA:=h.ovr.gone hc
 have hmc:=Q6 h1 hc
 have hrc:=Q6 h.hr hc
 have h:=h.new (o:=some (.cells [.str [],bo b,bo g])) hc (by simp)
 have h1:=(Qa B c (some (.cells [.str [],bo b,bo g])) hmc).trans h1
 have h3:=h3.new (some (.cells [.str [],bo b,bo g])) hc
 have hcc:(B.upd c (some (.cells [.str [],bo b,bo g]))) c=some (.cells [.str [],bo b,bo g]):=Q0 ..
 generalize B.upd c (some (.cells [.str [],bo b,bo g]))=B at*
 simp only[h1,QW,Q1,seval]
 refine Jt (GJ G (one:=Za) (big:=Zs) (enc:=.str) (fn:=81) (first:=[.ptr r 0]) (cap:=[]) h.hr hu hs (by decide) hf (fun A' u' lo' _ hr' hu' _=>WR G hr' hu' (by omega)) QM (fun _=>rfl) (fun _=>rfl)) h.ovr h.nr fun l u1 hl=> ?_
 obtain⟨k1, -⟩:=KC (by decide) QM (Q:=fun _=>True) (fun _ _ _ _=>trivial) hu hl
 have:=hu.le
 have h:=h.red (u':=u1) (lo':=lo)
 have hcc:=(Qa B r (some (rd s u1 lo)) hrc.symm).trans hcc
 simp only[US,cT]
 generalize B.upd r (some (rd s u1 lo))=B at*
 simp only[Qy,Q1,seval]
 have hfm:(l.flatMap fun a=>[AV.str a])=l.map AV.str:=(List.map_eq_flatMap ..).symm
 rw[hfm]
 refine Qv (fun k env ds B=>∃pre post n0,l=pre++post∧k=post.length∧env 0=.ptr m 0∧env 3=.ptr c 0∧env 15=.slice 1 l.length (l.map AV.str) none∧env 16=i64 l.length∧env 17=i64 pre.length∧ds=[]∧
  Mk A m r s {M with chans:=M.chans++pre.map fun n=>⟨n,b,g⟩} u1 lo B∧B c=some (.cells [.str n0,bo b,bo g])) l.length
  ⟨[],l,[],rfl,rfl,rfl,rfl,rfl,rfl,rfl,rfl,by simpa using h,hcc⟩ ?_
 rintro k env ds B ⟨pre,post,n0,hpp,rfl,e0,e3,e15,e16,e17,rfl,h,hcc⟩
 have hlen:(pre.length:Int)+post.length=l.length:=by rw[hpp];simp
 cases post with
 |nil=>
  have hlt:¬((pre.length:Int)<l.length):=by simp at hlen;omega
  have hpl:l=pre:=by rw[hpp];simp
  subst hpl
  simp only[e0,e3,e15,e16,e17,W0,fB hlt,QQ,Q1,seval]
  exact WV (by rw[Qp];exact h)
 |cons n post=>
  have hlt:((pre.length:Int)<l.length):=by simp at hlen;omega
  have e2:IntKind.i64.wrap ((pre.length:Int)+1)=((pre++[n]).length:Nat):=by rw[Qg (by omega) (by omega)];simp
  obtain⟨v1,v2,v3,v4,v5,t1,t2,t3,t4,t5,h1,h2,h3⟩:=h.hm
  simp only[e0,e3,e15,e16,e17,Q1,seval]
  refine⟨fun _=>⟨hlt,JY (v:=.str n) (by rw[hpp];simp) ?_⟩,fun h=>absurd hlt h⟩
  simp only[e0,e3,e15,e16,e17,hcc,Q1,seval]
  have h1:=(Qa B c (some (.cells [.str n,bo b,bo g])) hmc).trans h1
  have h:=h.loc (o:=some (.cells [.str n,bo b,bo g])) hA hcc hmc hrc (by simp)
  have h3:=h3.loc (some (.cells [.str n,bo b,bo g])) hcc (by simp)
  have hcc:(B.upd c (some (.cells [.str n,bo b,bo g]))) c=some (.cells [.str n,bo b,bo g]):=Q0 ..
  generalize B.upd c (some (.cells [.str n,bo b,bo g]))=B at*
  simp only[e0,e3,h1,hcc,QW,Q1,seval]
  refine QY (cs:=Chan.cells ⟨n,b,g⟩) (Jf _ _ rfl (by decide)) fun t ht=> ?_
  have hcc:=(Qa B t (some .tip) (Q6 hcc ht)).trans hcc
  have h:=h.new (o:=some .tip) ht (by simp)
  have h1:=(Qa B t (some .tip) (Q6 h1 ht)).trans h1
  have h3:=h3.new (some .tip) ht
  generalize B.upd t (some .tip)=B at*
  simp only[h1,QW,ZB,Q1,seval]
  refine KG (enc:=Chan.cells) (i:=2) h2.chans h3 rfl h.ovr (by simp only[dT,dL,or_false];rintro k (rfl|rfl);exact⟨_,h.hr⟩;exact⟨_,h1⟩) (by simp only[cC,lG];simp at hlen;omega) rfl fun v' τ' B' q1 q2 q3 q4=> ?_
  have h4:=q4 m _ h1 (by simp)
  have h5:=q4 r _ h.hr (by simp [rd,Zz])
  have h6:=q4 c _ hcc (by simp)
  simp only[h4,QW,q1.cells,q1.one,e0,e3,e15,e16,e17,e2,Q1,seval]
  exact⟨post.length,by simp,pre++[n],post,n,by simp [hpp],rfl,rfl,⟨q3.set h.nm (by simp),h.nr,h.nm,by rw[Q5 hmr.symm,h5],v1,v2,v',v4,v5,t1,t2,τ',t4,t5,Q0 ..,⟨h2.clocks,h2.vars,by simpa using q1,h2.funcs,h2.procs⟩,q2.upd _ (by simp)⟩,by rw[Q5 hmc.symm];exact h6⟩
theorem n163 {A B:Q3}{m r:Nat}{s u:Bs}{M:Model}{lo:Bool}{f:Nat}(h:Mk A m r s M u lo B)(hu:At s u)(hs:s.length≤20000)(hf:u.length<f)(hM:M.chans.length+u.length≤20000):
 Qt Tryz.prog G 163 [.ptr m 0] B (Ut A m r s lo Zs (fun l=>{M with chans:=M.chans++l}) (ZM f false false u)):=by
 refine Q4 l163 (fE rfl) ?_
 simp only[AF,Q1,seval]
 rw[show ZM f false false u=(ZM f false false u).bind fun l u=>.ok l u from by cases ZM f false false u <;> rfl]
 refine Hf (SY G h hu hs hf hM) fun l u1 B1 hl h=> ?_
 simp only[QQ,Q1,seval]
 exact WV (by rw[Qp]at h⊢;exact h)
theorem n164 {A B:Q3}{m r:Nat}{s u:Bs}{M:Model}{lo:Bool}{f:Nat}(h:Mk A m r s M u lo B)(hu:At s u)(hs:s.length≤20000)(hf:u.length<f)(hM:M.chans.length+u.length≤20000):
 Qt Tryz.prog G 164 [.ptr m 0] B (Ut A m r s lo Zs (fun l=>{M with chans:=M.chans++l}) ((Ql J7 u).bind fun _ u1=>(ZM f false true u1).bind fun l u2=>.ok l u2)):=by
 obtain⟨v1,v2,v3,v4,v5,t1,t2,t3,t4,t5,h1,h2,h3⟩:=h.hm
 refine Q4 l164 (fE rfl) ?_
 simp only[AE,h1,Q1,seval]
 refine Jt (YQ G h.hr hu (by omega)) h.ovr h.nr fun _ u1 g1=> ?_
 have b1:=Qn (by decide) _ _ _ _ hu g1
 have:=b1.lt
 have h:=h.red (u':=u1) (lo':=lo)
 rw[Qp]
 simp only[Q1,seval]
 refine Hf (SY G h b1.at' hs (by omega) (by omega)) fun l u2 B1 hl h=> ?_
 simp only[QQ,Q1,seval]
 exact WV (by rw[Qp]at h⊢;exact h)
theorem n165 {A B:Q3}{m r:Nat}{s u:Bs}{M:Model}{lo:Bool}{f:Nat}(h:Mk A m r s M u lo B)(hu:At s u)(hs:s.length≤20000)(hf:u.length<f)(hM:M.chans.length+u.length≤20000):
 Qt Tryz.prog G 165 [.ptr m 0] B (Ut A m r s lo Zs (fun l=>{M with chans:=M.chans++l}) (if cur u=Zq then(Ql J7 (adv u)).bind fun _ u1=>(ZM f true true u1).bind fun l u2=>.ok l u2
  else(Ql J7 u).bind fun _ u1=>(ZM f true false u1).bind fun l u2=>.ok l u2)):=by
 obtain⟨v1,v2,v3,v4,v5,t1,t2,t3,t4,t5,h1,h2,h3⟩:=h.hm
 have hmr:=h.ne
 refine Q4 l165 (fE rfl) ?_
 simp only[AD,h1,Q1,seval]
 refine Q2 (YV G h.hr hu hs) ?_
 have key:∀(b:Bool) (v:Bs) (B:Q3),Mk A m r s M v lo B→At s v→v.length≤u.length→B m=some (.cells [.ptr r 0,.str M.name,v1,v2,v3,v4,v5])→True:=fun _ _ _ _ _ _ _=>trivial
 by_cases hc:cur u=[117,114,103,101,110,116]
 ·have b0:=Beh.adv hu hc (by decide)
  have:=b0.lt
  have h:=h.red (u':=adv u) (lo':=lo)
  rw[fC (show cur u=Zq from hc)]
  simp only[fA hc,fC hc,Q5 hmr,h1,Q1,seval]
  refine Jt (YQ G h.hr b0.at' (by omega)) h.ovr h.nr fun _ u1 g1=> ?_
  have b1:=Qn (by decide) _ _ _ _ b0.at' g1
  have:=b1.lt
  have h:=h.red (u':=u1) (lo':=lo)
  rw[Qp]
  simp only[Q1,seval]
  refine Hf (SY G (by rw[QZ]at h;exact h) b1.at' hs (by omega) (by omega)) fun l u2 B1 hl h=> ?_
  simp only[QQ,Q1,seval]
  exact WV (by rw[Qp]at h⊢;exact h)
 ·have h:=h.red (u':=u) (lo':=lo)
  rw[fD (show¬cur u=Zq from hc)]
  simp only[fB hc,fD hc,Q5 hmr,h1,Q1,seval]
  refine Jt (YQ G h.hr hu (by omega)) h.ovr h.nr fun _ u1 g1=> ?_
  have b1:=Qn (by decide) _ _ _ _ hu g1
  have:=b1.lt
  have h:=h.red (u':=u1) (lo':=lo)
  rw[Qp]
  simp only[Q1,seval]
  refine Hf (SY G (by rw[QZ]at h;exact h) b1.at' hs (by omega) (by omega)) fun l u2 B1 hl h=> ?_
  simp only[QQ,Q1,seval]
  exact WV (by rw[Qp]at h⊢;exact h)
end
open Go.Ax.K
def BD:LC:=.seq (.draw (
v 0 (o 63<|mv 0)<|v 1 (o 64 (.nchk (t 63)))<|v 2 (o 65<|fl 0 64)<|w 3 (o 66<|ld 65)<|v 4 (o 67 (.nchk (t 66)))<|v 5 (o 68<|fl 0 67)<|w 6 (o 69<|ld 68)<|v 7 (o 70<|mv 0)<|v 8 (o 71 (.nchk (t 70)))<|v 9 (o 72<|fl 0 71)<|w 10 (o 73<|ld 72)<|v 11 (o 74 (.nchk (t 73)))<|v 12 (o 75<|fl 1 74)<|w 13 (o 76<|ld 75)<|.eff (o 77<|ca 84 [t 69,t 76]) [] (
v 15 (o 62<|mv 77)<|v 16 (o 78 (.ext (t 62) 0))<|v 17 (o 79 (.ext (t 62) 1))<|v 18 (o 80 (.ext (t 62) 2))<|.eff ⟨some 4,.alloc 80 [.string ⟨#[]⟩,.slice none 0 0,.slice none 0 0],none⟩ [13,10,6,3] (
.eff (e (.store 3 (t 4) (t 78))) [] (
v 21 (o 5<|mv 79)<|v 22 (o 6<|mv 80)<|.done) (
.nil)) (
.nil)) (
.eff ⟨some 4,.alloc 80 [.string ⟨#[]⟩,.slice none 0 0,.slice none 0 0],none⟩ [13,10,6,3] (
.eff (o 77<|ca 84 [t 69,t 76]) [] (
v 15 (o 62<|mv 77)<|v 16 (o 78 (.ext (t 62) 0))<|v 17 (o 79 (.ext (t 62) 1))<|v 18 (o 80 (.ext (t 62) 2))<|.eff (e (.store 3 (t 4) (t 78))) [] (
v 21 (o 5<|mv 79)<|v 22 (o 6<|mv 80)<|.done) (
.nil)) (
.nil)) (
.nil))))<|.seq (.seq (.ops [o 81 (mv 6),o 82 (bk .eql 81 (3))])<|.cond (t 82) (.seq (.ops [o 83 (mv 0),o 84 (.nchk (t 83)),o 85 (fl 0 84),o 86 (ld 85),o 87 (.nchk (t 86)),o 88 (fl 3 87),e (.store 1 (t 88) (.const (.bool true)))])<|.seq (.ops [o 89 (mv 0),o 90 (.nchk (t 89)),o 91 (fl 0 90),o 92 (ld 91),o 93 (ca 85 [t 92])])<|.exit 3)<|.skip)<|.seq (.ops [o 94 (mv 0),o 95 (.nchk (t 94)),o 96 (fl 0 95),o 97 (ld 96),o 98 (mv 5),o 99 (mv 6),o 100 (ca 86 [t 97,t 98,t 99])])<|.draw (
v 0 (o 101<|mv 0)<|v 1 (o 102<|mv 0)<|v 2 (o 103 (.nchk (t 102)))<|v 3 (o 104<|fl 1 103)<|v 4 (o 105<|fl 4 104)<|w 5 (o 106<|ld 105)<|w 6 (o 107<|la 3 4)<|.eff ⟨some 108,.bslice 80 3 1 [.string ⟨#[]⟩,.slice none 0 0,.slice none 0 0] [(0,t 107)],none⟩ [5] (
.eff (o 109 (.app 80 3 64 (t 106) (t 108))) [] (
v 9 (o 110 (.nchk (t 101)))<|v 10 (o 111<|fl 1 110)<|v 11 (o 112<|fl 4 111)<|.eff (e (.store 1 (t 112) (t 109))) [] (
.done) (
.nil)) (
.nil)) (
.nil))
def BC:LC:=.seq (.ops [o 118 (mv 0),o 119 (ca 88 [t 118]),⟨some 7,.alloc 48 [.string ⟨#[]⟩,.string ⟨#[]⟩,.slice none 0 0,.slice none 0 0],none⟩,e (.store 4 (t 7) (t 119))])<|.draw (
v 0 (o 120<|mv 0)<|v 1 (o 121<|mv 0)<|v 2 (o 122 (.nchk (t 121)))<|v 3 (o 123<|fl 1 122)<|v 4 (o 124<|fl 5 123)<|w 5 (o 125<|ld 124)<|w 6 (o 126<|la 4 7)<|.eff ⟨some 127,.bslice 48 4 1 [.string ⟨#[]⟩,.string ⟨#[]⟩,.slice none 0 0,.slice none 0 0] [(0,t 126)],none⟩ [5] (
.eff (o 128 (.app 48 4 80 (t 125) (t 127))) [] (
v 9 (o 129 (.nchk (t 120)))<|v 10 (o 130<|fl 1 129)<|v 11 (o 131<|fl 5 130)<|.eff (e (.store 1 (t 131) (t 128))) [] (
.done) (
.nil)) (
.nil)) (
.nil))
theorem yA:C24=(.seq (.ops [o 8 (mv 0),o 9 (.nchk (t 8)),o 10 (fl 0 9),o 11 (ld 10),⟨some 12,ca 80 [t 11,.const (.string ⟨#[109,111,100,101,108]⟩)],none⟩])<|.seq (.ops [o 13 (mv 0),o 14 (mv 0),o 15 (.nchk (t 14)),o 16 (fl 0 15),o 17 (ld 16),o 18 (ca 81 [t 17]),o 19 (.nchk (t 13)),o 20 (fl 1 19),o 21 (fl 0 20),e (.store 1 (t 21) (t 18))])<|.seq (.ops [o 22 (mv 0),o 23 (.nchk (t 22)),o 24 (fl 0 23),o 25 (ld 24),⟨some 26,ca 80 [t 25,.const (.string ⟨#[59]⟩)],none⟩])<|.seq (.seq (.ops [o 27 (mv 0),o 28 (ca 82 [t 27]),o 2 (mv 28)])<|.block 0<|.loop<|.seq (.seq (.ops [o 29 (mv 2),o 30 (mv 0),o 31 (.nchk (t 30)),o 32 (fl 0 31),o 33 (ld 32),o 34 (ca 83 [t 33]),o 35 (.look .s false (.nilFunc) (t 29) (t 34)),o 36 (.bin .neq (.nilc .f true) (t 35) (.const (.nilFunc)))])<|.cond (t 36) (.skip)<|.exit 0)<|.seq (.block 1<|.seq (.ops [o 42 (mv 2),o 43 (mv 0),o 44 (.nchk (t 43)),o 45 (fl 0 44),o 46 (ld 45),o 47 (ca 83 [t 46]),o 48 (.look .s false (.nilFunc) (t 42) (t 47)),o 3 (mv 48)])<|.seq (.ops [o 49 (mv 0),o 50 (.nchk (t 49)),o 51 (fl 0 50),o 52 (ld 51),o 53 (ca 23 [t 52])])<|.ops [o 54 (mv 3),o 55 (.call (t 54) [])])<|.ops [o 37 (mv 0),o 38 (.nchk (t 37)),o 39 (fl 0 38),o 40 (ld 39),⟨some 41,ca 80 [t 40,.const (.string ⟨#[59]⟩)],none⟩])<|.seq (.block 2<|.loop<|.seq (.seq (.ops [o 56 (mv 0),o 57 (.nchk (t 56)),o 58 (fl 0 57),o 59 (ld 58),o 60 (ca 83 [t 59]),⟨some 61,.bin .eql .num (t 60) (.const (.string ⟨#[102,117,110,99]⟩)),none⟩])<|.cond (t 61) (.skip)<|.exit 2)<|.block 3<|BD)<|.seq (.block 4<|.loop<|.seq (.seq (.ops [o 113 (mv 0),o 114 (.nchk (t 113)),o 115 (fl 0 114),o 116 (ld 115),⟨some 117,ca 87 [t 116,.const (.string ⟨#[112,114,111,99,101,115,115]⟩)],none⟩])<|.cond (t 117) (.skip)<|.exit 4)<|.block 5<|BC)<|.seq (.draw (
v 0 (o 132<|mv 0)<|v 1 (o 133 (.nchk (t 132)))<|v 2 (o 134<|fl 0 133)<|w 3 (o 135<|ld 134)<|v 4 (o 136 (.nchk (t 135)))<|v 5 (o 137<|fl 1 136)<|w 6 (o 138<|ld 137)<|v 7 (o 139<|mv 0)<|v 8 (o 140 (.nchk (t 139)))<|v 9 (o 141<|fl 0 140)<|w 10 (o 142<|ld 141)<|v 11 (o 143 (.nchk (t 142)))<|v 12 (o 144<|fl 0 143)<|w 13 (o 145<|ld 144)<|v 14 (o 146 (.lenOf .str (t 145)))<|v 15 (o 147<|bn .lss 138 146)<|.done))<|.cond (t 147) (.ops [o 148 (mv 0),o 149 (.nchk (t 148)),o 150 (fl 0 149),o 151 (ld 150),o 152 (ca 89 [t 151])])<|.skip
):=rfl
end Go.Proofs.YtcbjbgaefighcaaGreatDoor
