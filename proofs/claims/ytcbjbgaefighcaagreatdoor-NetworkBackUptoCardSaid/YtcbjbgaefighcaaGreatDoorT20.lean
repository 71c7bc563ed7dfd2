/- Part 20 of the proof. -/
import Derived.Test.YtcbjbgaefighcaaGreatDoorT0
import Derived.Test.YtcbjbgaefighcaaGreatDoorT19
set_option linter.all false
namespace Go.Proofs.YtcbjbgaefighcaaGreatDoor
open Go Go.Ax Go.Proofs
def Ks (p:Proc):Proc:={p with edges:=p.edges.map Kg}
def Vk (p:Proc):Bool:=p.edges.any JQ
def M7 {α:Type}(sz:Nat)(enc:α→List AV)(A:Q3)(no:List Nat)(l:List α)(v:AV)(B:Q3):Prop:=(v=.raw (.slice none 0 0)∧l=[])∨∃t,v=.slice sz l.length (l.flatMap enc) (some t)∧A t=none∧t∉no∧B t=some .tip
theorem M7.one {α:Type}{sz:Nat}{enc:α→List AV}{A:Q3}{no:List Nat}{l:List α}{v:AV}{B:Q3}(h:M7 sz enc A no l v B):v.one=true:=by
 rcases h with⟨rfl,_⟩|⟨t,rfl,_⟩ <;> rfl
theorem M7.wk {α:Type}{sz:Nat}{enc:α→List AV}{A:Q3}{no:List Nat}{l:List α}{v:AV}{B:Q3}(h:M7 sz enc A no l v B):Wk v (Qy sz enc l):=by
 rcases h with⟨rfl,rfl⟩|⟨t,rfl,_⟩
 ·exact Jm
 ·exact Ym
theorem M7.upd {α:Type}{sz:Nat}{enc:α→List AV}{A:Q3}{no:List Nat}{l:List α}{v:AV}{B:Q3}(h:M7 sz enc A no l v B){k:Nat}(o:Option AObj)(hk:k∈no):M7 sz enc A no l v (B.upd k o):=by
 rcases h with h|⟨t,h1,h2,h3,h4⟩
 ·exact .inl h
 ·exact .inr ⟨t,h1,h2,h3,by rw[Q5 (fun e=>h3 (by rw[e];exact hk)),h4]⟩
theorem M7.new {α:Type}{sz:Nat}{enc:α→List AV}{A:Q3}{no:List Nat}{l:List α}{v:AV}{B:Q3}(h:M7 sz enc A no l v B){k:Nat}(o:Option AObj)(hk:B k=none):M7 sz enc A no l v (B.upd k o):=by
 rcases h with h|⟨t,h1,h2,h3,h4⟩
 ·exact .inl h
 ·exact .inr ⟨t,h1,h2,h3,by rw[Q5 (fun e=>by rw[e,hk]at h4;cases h4),h4]⟩
theorem Edge.cells_len (x:Edge):x.cells.length=13:=by simp [Edge.cells,Exp.cells_len]
theorem Edge.cells_one (x:Edge):x.cells.all AV.one=true:=by simp only[Edge.cells,fK,Exp.cells_one];rfl
theorem Loc.cells_one (x:Loc):x.cells.all AV.one=true:=rfl
theorem HM {α:Type}{w:Bs}{one:Bs→Res α}{f:Nat}{l:List α}{u:Bs}(h:cur u=w):Jg w one (f+1) l u=(one (adv u)).bind fun x u1=>Jg w one f (l++[x]) u1:=fC h
theorem LV {α:Type}{w:Bs}{one:Bs→Res α}{f:Nat}{l:List α}{u:Bs}(h:¬cur u=w):Jg w one (f+1) l u=.ok l u:=fD h
section
variable (G:Nat→Option (List AV))
theorem n88 (hG:Gl G){f:Nat}{A:Q3}{m r:Nat}{mr:List AV}{s u0:Bs}{lo:Bool}(hm:A m=some (.cells (.ptr r 0::mr)))(hr:A r=some (rd s u0 lo))(hu:At s u0)(hs:s.length≤20000)(hf:10*u0.length+9≤f):
 Qt Tryz.prog G 88 [.ptr m 0] A (Jo r s A lo Vk (fun p=>.agg (Ks p).cells) (Xp f u0)):=by
 have hmr:m≠r:=fun e=>by subst e;rw[hm]at hr;cases hr
 refine Q4 l88 (fE rfl) ?_
 simp only[Xp]
 unfold C88
 refine Qd (fun env ds A'=>∃c,env 0=.ptr m 0∧env 2=.ptr c 0∧ds=[]∧A c=none∧QK r A A'∧A' r=some (rd s u0 lo)∧A' c=some (.cells [.str [],.str [],.raw (.slice none 0 0),.raw (.slice none 0 0)])) ?_ ?_
 ·simp only[Q1,seval]
  intro c hc
  have hcr:=Q6 hr hc
  exact⟨c,rfl,hc,(by repeat first|exact QK.refl _ _|refine QK.at ?_ _|refine QK.set ?_ (by assumption) (by simp)),by rw[Q5 hcr,hr],(by first|exact Q0 .. |rfl)⟩
 rintro env ds B ⟨c,e0,e2,rfl,hc,hov,hBr,hBc⟩
 have hcr:=Q6 hr hc
 have hBm:=hov.keep hmr hm
 have hle0:u0.length≤u0.length:=fG _
 have hle00:=hu.le
 refine Qd (fun env ds A'=>∃n u1,Za u0=.ok n u1∧env 0=.ptr m 0∧env 2=.ptr c 0∧ds=[]∧QK r A A'∧A' r=some (rd s u1 (lo))∧A' c=some (.cells [.str n,.str [],.raw (.slice none 0 0),.raw (.slice none 0 0)])) ?_ ?_
 ·simp only[e0,e2,hBm,Q1,seval]
  refine QH (WR G hBr hu (by omega)) hov fun n u1 h1=> ?_
  simp only[e0,e2,hBm,hBc,Q5 hcr.symm,Qp,Q1,seval]
  exact⟨n,u1,h1,(hov.at _).set hc (by simp),by rw[Q5 hcr];exact Q0 ..,rfl⟩
 rintro env ds B ⟨n,u1,hn,e0,e2,rfl,hov,hBr,hBc⟩
 simp only[hn,Q7]
 have hBm:=hov.keep hmr hm
 have b1:=QM _ _ _ _ hu hn
 replace hu:=b1.at'
 have hle1:u1.length≤u0.length:=by have:=b1.beq.le;omega
 refine Qd (fun env ds A'=>∃z1 u2,Ql V1 u1=.ok z1 u2∧env 0=.ptr m 0∧env 2=.ptr c 0∧ds=[]∧QK r A A'∧A' r=some (rd s u2 (lo))∧A' c=some (.cells [.str n,.str [],.raw (.slice none 0 0),.raw (.slice none 0 0)])) ?_ ?_
 ·simp only[e0,e2,hBm,Q1,seval]
  refine QH (YQ G hBr hu (by omega)) hov fun z1 u2 h1=> ?_
  simp only[e0,e2,hBm,hBc,Q5 hcr.symm,Qp,Q1,seval]
  exact⟨z1,u2,h1,hov.at _,(by first|exact Q0 .. |rfl)⟩
 rintro env ds B ⟨z1,u2,hz1,e0,e2,rfl,hov,hBr,hBc⟩
 simp only[hz1,Q7]
 have hBm:=hov.keep hmr hm
 have b2:=(Qn (by decide)) _ _ _ _ hu hz1
 replace hu:=b2.at'
 have hle2:u2.length≤u0.length:=by have:=b2.beq.le;omega
 refine Qd (fun env ds A'=>∃i u3,Za u2=.ok i u3∧env 0=.ptr m 0∧env 2=.ptr c 0∧ds=[]∧QK r A A'∧A' r=some (rd s u3 (lo))∧A' c=some (.cells [.str n,.str i,.raw (.slice none 0 0),.raw (.slice none 0 0)])) ?_ ?_
 ·simp only[e0,e2,hBm,Q1,seval]
  refine QH (WR G hBr hu (by omega)) hov fun i u3 h1=> ?_
  simp only[e0,e2,hBm,hBc,Q5 hcr.symm,Qp,Q1,seval]
  exact⟨i,u3,h1,(hov.at _).set hc (by simp),by rw[Q5 hcr];exact Q0 ..,rfl⟩
 rintro env ds B ⟨i,u3,hi,e0,e2,rfl,hov,hBr,hBc⟩
 simp only[hi,Q7]
 have hBm:=hov.keep hmr hm
 have b3:=QM _ _ _ _ hu hi
 replace hu:=b3.at'
 have hle3:u3.length≤u0.length:=by have:=b3.beq.le;omega
 refine Qd (fun env ds A'=>∃z3 u4,Ql [123] u3=.ok z3 u4∧env 0=.ptr m 0∧env 2=.ptr c 0∧ds=[]∧QK r A A'∧A' r=some (rd s u4 (lo))∧A' c=some (.cells [.str n,.str i,.raw (.slice none 0 0),.raw (.slice none 0 0)])) ?_ ?_
 ·simp only[e0,e2,hBm,Q1,seval]
  refine QH (YQ G hBr hu (by omega)) hov fun z3 u4 h1=> ?_
  simp only[e0,e2,hBm,hBc,Q5 hcr.symm,Qp,Q1,seval]
  exact⟨z3,u4,h1,hov.at _,(by first|exact Q0 .. |rfl)⟩
 rintro env ds B ⟨z3,u4,hz3,e0,e2,rfl,hov,hBr,hBc⟩
 simp only[hz3,Q7]
 have hBm:=hov.keep hmr hm
 have b4:=(Qn (by decide)) _ _ _ _ hu hz3
 replace hu:=b4.at'
 have hle4:u4.length≤u0.length:=by have:=b4.beq.le;omega
 refine Qd (fun env ds A'=>∃ls vls u5,Jg JD (WZ f) f [] u4=.ok ls u5∧Wk vls (Qy 4 (Loc.cells) ls)∧(vls).one=true∧env 0=.ptr m 0∧env 2=.ptr c 0∧ds=[]∧QK r A A'∧A' r=some (rd s u5 (lo||ls.any (Zs)))∧A' c=some (.cells [.str n,.str i,vls,.raw (.slice none 0 0)])) ?_ ?_
 ·simp only[Q1,seval]
  refine Qv (fun k env ds A'=>∃(l:List Loc) (u':Bs) (f':Nat) (v:AV),k=u'.length∧env 0=.ptr m 0∧env 2=.ptr c 0∧ds=[]∧At s u'∧l.length+u'.length≤u4.length∧QK r A A'∧A' r=some (rd s u' (lo||l.any (Zs)))∧A' c=some (.cells [.str n,.str i,v,.raw (.slice none 0 0)])∧
   M7 4 (Loc.cells) A [r,c] l v A'∧u'.length<f'∧Jg JD (WZ f) f [] u4=Jg JD (WZ f) f' l u') u4.length
   ⟨[],u4,f,_,rfl,e0,e2,rfl,hu,by simp,hov,by simp only[List.any_nil,cT];exact hBr,hBc,.inl ⟨rfl,rfl⟩,by omega,rfl⟩ ?_
  rintro k env ds B ⟨l,u',f',v,rfl,e0,e2,rfl,hu,hlen,hov,hBr,hBc,hv,hf',hR⟩
  have hsl:=hu.le
  obtain⟨f',rfl⟩:∃g,f'=g+1:=⟨f' - 1,by omega⟩
  have hBm:=hov.keep hmr hm
  rw[hR]
  simp only[e0,e2,hBm,Q1,seval]
  refine Q2 (YV G hBr hu hs) ?_
  have hov1:=hov.at (some (rd s (if cur u'=JD then adv u' else u') (lo||l.any (Zs))))
  have hm1:=hov1.keep hmr hm
  have hr1:(B.upd r (some (rd s (if cur u'=JD then adv u' else u') (lo||l.any (Zs))))) r=some (rd s (if cur u'=JD then adv u' else u') (lo||l.any (Zs))):=Q0 ..
  have hc1:(B.upd r (some (rd s (if cur u'=JD then adv u' else u') (lo||l.any (Zs))))) c=some (.cells [.str n,.str i,v,.raw (.slice none 0 0)]):=by rw[Q5 hcr.symm,hBc]
  have hv1:=hv.upd (some (rd s (if cur u'=JD then adv u' else u') (lo||l.any (Zs)))) (k:=r) (by simp)
  by_cases hq:cur u'=JD
  ·have b:=Beh.adv hu hq (by decide)
   have:=b.lt
   rw[HM hq]
   simp only[fC hq]at hov1 hm1 hr1 hc1 hv1
   simp only[JD]at hq
   simp only[fA hq,fC hq,e0,e2,hm1,hc1,Q1,seval]
   generalize(B.upd r (some (rd s (adv u') (lo||l.any (Zs)))))=B1 at*
   simp only[Zk]
   refine QH (n172 G hG (f:=f) hm1 hr1 b.at' hs (by omega)) hov1 fun x v1 h1=> ?_
   have b1:=Nb _ _ _ _ b.at' h1
   have:=b1.lt
   have hov2:=hov1.at (some (rd s v1 ((lo||l.any (Zs))||Zs x)))
   have hr2:(B1.upd r (some (rd s v1 ((lo||l.any (Zs))||Zs x)))) r=some (rd s v1 ((lo||l.any (Zs))||Zs x)):=Q0 ..
   have hc2:(B1.upd r (some (rd s v1 ((lo||l.any (Zs))||Zs x)))) c=some (.cells [.str n,.str i,v,.raw (.slice none 0 0)]):=by rw[Q5 hcr.symm,hc1]
   have hv2:=hv1.upd (some (rd s v1 ((lo||l.any (Zs))||Zs x))) (k:=r) (by simp)
   generalize(B1.upd r (some (rd s v1 ((lo||l.any (Zs))||Zs x))))=B2 at*
   simp only[e0,e2,hc2,Q1,seval]
   refine⟨by simp only[QW,hc2,Q1,seval],?_⟩
   refine QY (cs:=(Loc.cells) x) (Jf _ _ rfl (by decide)) fun t1 ht1=> ?_
   have hrt:=Q6 hr2 ht1
   have hct:=Q6 hc2 ht1
   have hov3:=hov2.tip hrt.symm ht1
   have hr3:(B2.upd t1 (some .tip)) r=some (rd s v1 ((lo||l.any (Zs))||Zs x)):=by rw[Q5 hrt,hr2]
   have hc3:(B2.upd t1 (some .tip)) c=some (.cells [.str n,.str i,v,.raw (.slice none 0 0)]):=by rw[Q5 hct,hc2]
   have hv3:=hv2.new (some .tip) ht1
   generalize B2.upd t1 (some .tip)=B3 at*
   simp only[e0,e2,QW,hc3,Q1,seval]
   rcases hv3 with⟨rfl,rfl⟩|⟨t,rfl,ht,htn,htB⟩
   ·simp only[ZB,W2,Q1,seval]
    intro t2 ht2
    have hct2:=Q6 hc3 ht2
    have hrt2:=Q6 hr3 ht2
    simp only[e0,e2,Q5 hct2,hc3,QW,Q1,seval]
    refine⟨_,by omega,[x],v1,f',_,rfl,b1.at',by simp at hlen⊢;omega,(hov3.tip hrt2.symm ht2).set hc (by simp),?_,rfl,.inr ⟨t2,by simp,hov3.gone hrt2.symm ht2,by simp [hrt2.symm,hct2.symm],?_⟩,by omega,by rw[h1];rfl⟩
    ·rw[Q5 hcr,Q5 hrt2,hr3];simp
    ·rw[Q5 hct2.symm];exact Q0 ..
   ·have hrt:=fun e:r=t=>htn (by simp [e])
    have hct:=fun e:c=t=>htn (by simp [e])
    simp only[ZB,V9,Q1,seval]
    refine⟨htB,by omega,Loc.cells_one _,fun t2 ht2=> ?_⟩
    have hct2:=Q6 hc3 ht2
    have hrt2:=Q6 hr3 ht2
    simp only[e0,e2,Q5 hct2,Q5 hct,hc3,QW,Q1,seval]
    refine⟨_,by omega,l++[x],v1,f',_,rfl,b1.at',by simp at hlen⊢;omega,(((hov3.set ht (o:=none) (by simp)).set (hov3.gone hrt2.symm ht2) (by simp))).set hc (by simp),?_,rfl,.inr ⟨t2,by simp,hov3.gone hrt2.symm ht2,by simp [hrt2.symm,hct2.symm],?_⟩,by omega,by rw[h1];rfl⟩
    ·rw[Q5 hcr,Q5 hrt2,Q5 hrt,hr3];simp [dK]
    ·rw[Q5 hct2.symm];exact Q0 ..
  ·rw[LV hq]
   simp only[fD hq]at hov1 hm1 hr1 hc1 hv1
   simp only[JD]at hq
   simp only[fB hq,fD hq,e0,e2,Q1,seval]
   exact⟨l,v,u',rfl,hv.wk,hv.one,hov1,(by first|exact Q0 .. |rfl),hc1⟩
 rintro env ds B ⟨ls,vls,u5,hls,hwls,onels,e0,e2,rfl,hov,hBr,hBc⟩
 simp only[hls,Q7]
 have hBm:=hov.keep hmr hm
 have b5:=KB (by decide) (Nb).tk0 f [] _ _ _ _ hu hls
 replace hu:=b5.at'
 have hle5:u5.length≤u0.length:=by have:=b5.le;omega
 refine Qd (fun env ds A'=>∃es ves u6,Jg JF (Xq f) f [] u5=.ok es u6∧Wk ves (Qy 13 (fun x=>(Kg x).cells) es)∧(ves).one=true∧env 0=.ptr m 0∧env 2=.ptr c 0∧ds=[]∧QK r A A'∧A' r=some (rd s u6 (lo||ls.any (Zs)||es.any (JQ)))∧A' c=some (.cells [.str n,.str i,vls,ves])) ?_ ?_
 ·simp only[Q1,seval]
  refine Qv (fun k env ds A'=>∃(l:List Edge) (u':Bs) (f':Nat) (v:AV),k=u'.length∧env 0=.ptr m 0∧env 2=.ptr c 0∧ds=[]∧At s u'∧l.length+u'.length≤u5.length∧QK r A A'∧A' r=some (rd s u' (lo||ls.any (Zs)||l.any (JQ)))∧A' c=some (.cells [.str n,.str i,vls,v])∧
   M7 13 (fun x=>(Kg x).cells) A [r,c] l v A'∧u'.length<f'∧Jg JF (Xq f) f [] u5=Jg JF (Xq f) f' l u') u5.length
   ⟨[],u5,f,_,rfl,e0,e2,rfl,hu,by simp,hov,by simp only[List.any_nil,cT];exact hBr,hBc,.inl ⟨rfl,rfl⟩,by omega,rfl⟩ ?_
  rintro k env ds B ⟨l,u',f',v,rfl,e0,e2,rfl,hu,hlen,hov,hBr,hBc,hv,hf',hR⟩
  have hsl:=hu.le
  obtain⟨f',rfl⟩:∃g,f'=g+1:=⟨f' - 1,by omega⟩
  have hBm:=hov.keep hmr hm
  rw[hR]
  simp only[e0,e2,hBm,Q1,seval]
  refine Q2 (YV G hBr hu hs) ?_
  have hov1:=hov.at (some (rd s (if cur u'=JF then adv u' else u') (lo||ls.any (Zs)||l.any (JQ))))
  have hm1:=hov1.keep hmr hm
  have hr1:(B.upd r (some (rd s (if cur u'=JF then adv u' else u') (lo||ls.any (Zs)||l.any (JQ))))) r=some (rd s (if cur u'=JF then adv u' else u') (lo||ls.any (Zs)||l.any (JQ))):=Q0 ..
  have hc1:(B.upd r (some (rd s (if cur u'=JF then adv u' else u') (lo||ls.any (Zs)||l.any (JQ))))) c=some (.cells [.str n,.str i,vls,v]):=by rw[Q5 hcr.symm,hBc]
  have hv1:=hv.upd (some (rd s (if cur u'=JF then adv u' else u') (lo||ls.any (Zs)||l.any (JQ)))) (k:=r) (by simp)
  by_cases hq:cur u'=JF
  ·have b:=Beh.adv hu hq (by decide)
   have:=b.lt
   rw[HM hq]
   simp only[fC hq]at hov1 hm1 hr1 hc1 hv1
   simp only[JF]at hq
   simp only[fA hq,fC hq,e0,e2,hm1,hc1,Q1,seval]
   generalize(B.upd r (some (rd s (adv u') (lo||ls.any (Zs)||l.any (JQ)))))=B1 at*
   simp only[Zk]
   refine QH (n173 G hG (f:=f) hm1 hr1 b.at' hs (by omega)) hov1 fun x v1 h1=> ?_
   have b1:=Si _ _ _ _ b.at' h1
   have:=b1.lt
   have hov2:=hov1.at (some (rd s v1 ((lo||ls.any (Zs)||l.any (JQ))||JQ x)))
   have hr2:(B1.upd r (some (rd s v1 ((lo||ls.any (Zs)||l.any (JQ))||JQ x)))) r=some (rd s v1 ((lo||ls.any (Zs)||l.any (JQ))||JQ x)):=Q0 ..
   have hc2:(B1.upd r (some (rd s v1 ((lo||ls.any (Zs)||l.any (JQ))||JQ x)))) c=some (.cells [.str n,.str i,vls,v]):=by rw[Q5 hcr.symm,hc1]
   have hv2:=hv1.upd (some (rd s v1 ((lo||ls.any (Zs)||l.any (JQ))||JQ x))) (k:=r) (by simp)
   generalize(B1.upd r (some (rd s v1 ((lo||ls.any (Zs)||l.any (JQ))||JQ x))))=B2 at*
   simp only[e0,e2,hc2,Q1,seval]
   refine⟨by simp only[QW,hc2,Q1,seval],?_⟩
   refine QY (cs:=(fun x=>(Kg x).cells) x) (Jf _ _ (Edge.cells_len _) (by decide)) fun t1 ht1=> ?_
   have hrt:=Q6 hr2 ht1
   have hct:=Q6 hc2 ht1
   have hov3:=hov2.tip hrt.symm ht1
   have hr3:(B2.upd t1 (some .tip)) r=some (rd s v1 ((lo||ls.any (Zs)||l.any (JQ))||JQ x)):=by rw[Q5 hrt,hr2]
   have hc3:(B2.upd t1 (some .tip)) c=some (.cells [.str n,.str i,vls,v]):=by rw[Q5 hct,hc2]
   have hv3:=hv2.new (some .tip) ht1
   generalize B2.upd t1 (some .tip)=B3 at*
   simp only[e0,e2,QW,hc3,Q1,seval]
   rcases hv3 with⟨rfl,rfl⟩|⟨t,rfl,ht,htn,htB⟩
   ·simp only[ZB,W2,Q1,seval]
    intro t2 ht2
    have hct2:=Q6 hc3 ht2
    have hrt2:=Q6 hr3 ht2
    simp only[e0,e2,Q5 hct2,hc3,QW,Q1,seval]
    refine⟨_,by omega,[x],v1,f',_,rfl,b1.at',by simp at hlen⊢;omega,(hov3.tip hrt2.symm ht2).set hc (by simp),?_,rfl,.inr ⟨t2,by simp,hov3.gone hrt2.symm ht2,by simp [hrt2.symm,hct2.symm],?_⟩,by omega,by rw[h1];rfl⟩
    ·rw[Q5 hcr,Q5 hrt2,hr3];simp
    ·rw[Q5 hct2.symm];exact Q0 ..
   ·have hrt:=fun e:r=t=>htn (by simp [e])
    have hct:=fun e:c=t=>htn (by simp [e])
    simp only[ZB,V9,Q1,seval]
    refine⟨htB,by omega,Edge.cells_one _,fun t2 ht2=> ?_⟩
    have hct2:=Q6 hc3 ht2
    have hrt2:=Q6 hr3 ht2
    simp only[e0,e2,Q5 hct2,Q5 hct,hc3,QW,Q1,seval]
    refine⟨_,by omega,l++[x],v1,f',_,rfl,b1.at',by simp at hlen⊢;omega,(((hov3.set ht (o:=none) (by simp)).set (hov3.gone hrt2.symm ht2) (by simp))).set hc (by simp),?_,rfl,.inr ⟨t2,by simp,hov3.gone hrt2.symm ht2,by simp [hrt2.symm,hct2.symm],?_⟩,by omega,by rw[h1];rfl⟩
    ·rw[Q5 hcr,Q5 hrt2,Q5 hrt,hr3];simp [dK]
    ·rw[Q5 hct2.symm];exact Q0 ..
  ·rw[LV hq]
   simp only[fD hq]at hov1 hm1 hr1 hc1 hv1
   simp only[JF]at hq
   simp only[fB hq,fD hq,e0,e2,Q1,seval]
   exact⟨l,v,u',rfl,hv.wk,hv.one,hov1,(by first|exact Q0 .. |rfl),hc1⟩
 rintro env ds B ⟨es,ves,u6,hes,hwes,onees,e0,e2,rfl,hov,hBr,hBc⟩
 simp only[hes,Q7]
 have hBm:=hov.keep hmr hm
 have b6:=KB (by decide) (Si).tk0 f [] _ _ _ _ hu hes
 replace hu:=b6.at'
 have hle6:u6.length≤u0.length:=by have:=b6.le;omega
 refine Qd (fun env ds A'=>∃z6 u7,Ql [125] u6=.ok z6 u7∧env 0=.ptr m 0∧env 2=.ptr c 0∧ds=[]∧QK r A A'∧A' r=some (rd s u7 (lo||ls.any (Zs)||es.any (JQ)))∧A' c=some (.cells [.str n,.str i,vls,ves])) ?_ ?_
 ·simp only[e0,e2,hBm,Q1,seval]
  refine QH (YQ G hBr hu (by omega)) hov fun z6 u7 h1=> ?_
  simp only[e0,e2,hBm,hBc,Q5 hcr.symm,Qp,Q1,seval]
  exact⟨z6,u7,h1,hov.at _,(by first|exact Q0 .. |rfl)⟩
 rintro env ds B ⟨z6,u7,hz6,e0,e2,rfl,hov,hBr,hBc⟩
 simp only[hz6,Q7]
 have hBm:=hov.keep hmr hm
 have b7:=(Qn (by decide)) _ _ _ _ hu hz6
 replace hu:=b7.at'
 have hle7:u7.length≤u0.length:=by have:=b7.beq.le;omega
 simp only[e0,e2,hBc,onels,onees,Q1,seval]
 refine VI ?_ ?_ ?_
 ·simp only[Proc.cells,Ks,Sn];exact YA (JL (Wk.refl _) (JL (Wk.refl _) (JL hwls (JL hwes (Y6 _)))))
 ·exact hov.set hc (by simp)
 ·rw[Q5 hcr,hBr];simp only[Vk,US,cT]
end
structure Tips (A:Q3) (no:List Nat) (T:List (Option Nat)) (B:Q3):Prop where
 tip:∀i t:Nat,T[i]? =some (some t)→A t=none∧t∉no∧B t=some .tip
 inj:∀i j t:Nat,T[i]? =some (some t)→T[j]? =some (some t)→i=j
section
variable {A B:Q3}{no:List Nat}{T:List (Option Nat)}
theorem Tips.upd (h:Tips A no T B){k:Nat}(o:Option AObj)(hk:k∈no):Tips A no T (B.upd k o):={
 tip:=fun i t ht=>by
  obtain⟨h1,h2,h3⟩:=h.tip i t ht
  exact⟨h1,h2,by rw[Q5 (fun e=>h2 (by rw[e];exact hk)),h3]⟩
 inj:=h.inj}
theorem Tips.new (h:Tips A no T B){k:Nat}(o:Option AObj)(hk:B k=none):Tips A no T (B.upd k o):={
 tip:=fun i t ht=>by
  obtain⟨h1,h2,h3⟩:=h.tip i t ht
  exact⟨h1,h2,by rw[Q5 (fun e=>by rw[e,hk]at h3;cases h3),h3]⟩
 inj:=h.inj}
theorem Tips.loc (h:Tips A no T B){k:Nat}(o:Option AObj){o':AObj}(hk:B k=some o')(ho:o'≠ .tip):Tips A no T (B.upd k o):={
 tip:=fun i t ht=>by
  obtain⟨h1,h2,h3⟩:=h.tip i t ht
  exact⟨h1,h2,by rw[Q5 (fun e=>by rw[e,hk]at h3;cases h3;exact ho rfl),h3]⟩
 inj:=h.inj}
theorem Tips.ne (h:Tips A no T B){i k:Nat}{t:Nat}(ht:T[i]? =some (some t))(hk:k∈no):k≠t:=fun e=>(h.tip i t ht).2.1 (by rw[←e];exact hk)
theorem Tips.app (h:Tips A no T B){i:Nat}(hi:i<T.length){t t':Nat}(ht:T[i]? =some (some t))(h1:B t'=none)(h2:A t'=none)(h3:t'∉no):Tips A no (T.set i (some t')) ((B.upd t none).upd t' (some .tip)):={
 tip:=fun j x hx=>by
  rw[List.getElem?_set]at hx
  split at hx
  ·simp only[cA]at hx;subst hx;exact⟨h2,h3,Q0 ..⟩
  ·rename_i hne
   obtain⟨k1,k2,k3⟩:=h.tip j x hx
   have e1:x≠t':=fun e=>by rw[e,h1]at k3;cases k3
   have e2:x≠t:=fun e=>hne (h.inj i j t ht (by rw[←e];exact hx))
   exact⟨k1,k2,by rw[Q5 e1,Q5 e2,k3]⟩
 inj:=fun j l x hj hl=>by
  rw[List.getElem?_set]at hj hl
  have key:∀j,T[j]? =some (some t')→False:=fun j hj=>by have:=(h.tip j t' hj).2.2;rw[h1]at this;cases this
  split at hj <;> split at hl
  ·omega
  ·simp only[cA]at hj;subst hj;exact absurd hl (fun hl=>key _ hl)
  ·simp only[cA]at hl;subst hl;exact absurd hj (fun hj=>key _ hj)
  ·exact h.inj _ _ _ hj hl}
theorem Tips.app0 (h:Tips A no T B){i:Nat}(hi:i<T.length){t':Nat}(h1:B t'=none)(h2:A t'=none)(h3:t'∉no):Tips A no (T.set i (some t')) (B.upd t' (some .tip)):={
 tip:=fun j x hx=>by
  rw[List.getElem?_set]at hx
  split at hx
  ·simp only[cA]at hx;subst hx;exact⟨h2,h3,Q0 ..⟩
  ·obtain⟨k1,k2,k3⟩:=h.tip j x hx
   have e1:x≠t':=fun e=>by rw[e,h1]at k3;cases k3
   exact⟨k1,k2,by rw[Q5 e1,k3]⟩
 inj:=fun j l x hj hl=>by
  rw[List.getElem?_set]at hj hl
  have key:∀j,T[j]? =some (some t')→False:=fun j hj=>by have:=(h.tip j t' hj).2.2;rw[h1]at this;cases this
  split at hj <;> split at hl
  ·omega
  ·simp only[cA]at hj;subst hj;exact absurd hl (fun hl=>key _ hl)
  ·simp only[cA]at hl;subst hl;exact absurd hj (fun hj=>key _ hj)
  ·exact h.inj _ _ _ hj hl}
end
def Ie {α:Type}(sz:Nat)(enc:α→List AV)(l:List α)(v:AV)(τ:Option Nat):Prop:=(v=.raw (.slice none 0 0)∧l=[]∧τ=none)∨∃t,v=.slice sz l.length (l.flatMap enc) (some t)∧τ=some t
theorem Ie.one {α:Type}{sz:Nat}{enc:α→List AV}{l:List α}{v:AV}{τ:Option Nat}(h:Ie sz enc l v τ):v.one=true:=by
 rcases h with⟨rfl,_⟩|⟨t,rfl,_⟩ <;> rfl
theorem Ie.cells {α:Type}{sz:Nat}{enc:α→List AV}{l:List α}{v:AV}{τ:Option Nat}(h:Ie sz enc l v τ):v.cells=[v]:=by
 rcases h with⟨rfl,_⟩|⟨t,rfl,_⟩ <;> rfl
theorem Ie.wk {α:Type}{sz:Nat}{enc:α→List AV}{l:List α}{v:AV}{τ:Option Nat}(h:Ie sz enc l v τ):Wk v (Qy sz enc l):=by
 rcases h with⟨rfl,rfl,_⟩|⟨t,rfl,_⟩
 ·exact Jm
 ·exact Ym
structure Vs (M:Model) (v1 v2 v3 v4 v5:AV) (t1 t2 t3 t4 t5:Option Nat):Prop where
 clocks:Ie 1 Zl M.clocks v1 t1
 vars:Ie 4 Var.cells M.vars v2 t2
 chans:Ie 3 Chan.cells M.chans v3 t3
 funcs:Ie 3 Func.cells M.funcs v4 t4
 procs:Ie 4 (fun p=>(Ks p).cells) M.procs v5 t5
structure Mk (A:Q3) (m r:Nat) (s:Bs) (M:Model) (u:Bs) (lo:Bool) (B:Q3):Prop where
 ovr:Z7 A B
 nr:A r=none
 nm:A m=none
 hr:B r=some (rd s u lo)
 hm:∃v1 v2 v3 v4 v5 t1 t2 t3 t4 t5,B m=some (.cells [.ptr r 0,.str M.name,v1,v2,v3,v4,v5])∧Vs M v1 v2 v3 v4 v5 t1 t2 t3 t4 t5∧Tips A [r,m] [t1,t2,t3,t4,t5] B
theorem Mk.ne {A:Q3}{m r:Nat}{s:Bs}{M:Model}{u:Bs}{lo:Bool}{B:Q3}(h:Mk A m r s M u lo B):m≠r:=fun e=>by
 obtain⟨_,_,_,_,_,_,_,_,_,_,h1,_⟩:=h.hm
 rw[e,h.hr]at h1;simp [rd,Zz]at h1
theorem Mk.red {A:Q3}{m r:Nat}{s:Bs}{M:Model}{u u':Bs}{lo lo':Bool}{B:Q3}(h:Mk A m r s M u lo B):Mk A m r s M u' lo' (B.upd r (some (rd s u' lo'))):={
 ovr:=h.ovr.set h.nr (by simp [rd,Zz])
 nr:=h.nr
 nm:=h.nm
 hr:=Q0 ..
 hm:=by
  obtain⟨v1,v2,v3,v4,v5,t1,t2,t3,t4,t5,h1,h2,h3⟩:=h.hm
  exact⟨v1,v2,v3,v4,v5,t1,t2,t3,t4,t5,by rw[Q5 h.ne,h1],h2,h3.upd _ (by simp)⟩}
theorem Mk.new {A:Q3}{m r:Nat}{s:Bs}{M:Model}{u:Bs}{lo:Bool}{B:Q3}(h:Mk A m r s M u lo B){k:Nat}{o:Option AObj}(hk:B k=none)(ho:∀es,o≠some (.mp es)):Mk A m r s M u lo (B.upd k o):={
 ovr:=h.ovr.set (h.ovr.gone hk) ho
 nr:=h.nr
 nm:=h.nm
 hr:=by rw[Q5 (Q6 h.hr hk),h.hr]
 hm:=by
  obtain⟨v1,v2,v3,v4,v5,t1,t2,t3,t4,t5,h1,h2,h3⟩:=h.hm
  exact⟨v1,v2,v3,v4,v5,t1,t2,t3,t4,t5,by rw[Q5 (Q6 h1 hk),h1],h2,h3.new _ hk⟩}
theorem Mk.loc {A:Q3}{m r:Nat}{s:Bs}{M:Model}{u:Bs}{lo:Bool}{B:Q3}(h:Mk A m r s M u lo B){k:Nat}{o:Option AObj}{cs:List AV}(hA:A k=none)(hk:B k=some (.cells cs))(hm:m≠k)(hr:r≠k)(ho:∀es,o≠some (.mp es)):Mk A m r s M u lo (B.upd k o):={
 ovr:=h.ovr.set hA ho
 nr:=h.nr
 nm:=h.nm
 hr:=by rw[Q5 hr,h.hr]
 hm:=by
  obtain⟨v1,v2,v3,v4,v5,t1,t2,t3,t4,t5,h1,h2,h3⟩:=h.hm
  exact⟨v1,v2,v3,v4,v5,t1,t2,t3,t4,t5,by rw[Q5 hm,h1],h2,h3.loc _ hk (by simp)⟩}
theorem Z7.unbase {A B:Q3}{p:Nat}{o:AObj}(h:Z7 (A.upd p (some o)) B)(hp:A p=none)(hn:K7 A p):Z7 A B:=fun k=>by
 by_cases e:k=p
 ·subst e;exact .inr ⟨hp,fun es _ j l e hj=>hn j _ l e hj rfl⟩
 ·rcases h k with h1|⟨h1,h2⟩
  ·rw[Q5 e]at h1;exact .inl h1
  ·rw[Q5 e]at h1
   refine .inr ⟨h1,fun es he j l x hj=>h2 es he j l x ?_⟩
   rw[Q5 (fun e2=>by rw[e2,hp]at hj;cases hj),hj]
theorem Mk.unbase {A:Q3}{m r:Nat}{s:Bs}{M:Model}{u:Bs}{lo:Bool}{B:Q3}{p:Nat}{o:AObj}(h:Mk (A.upd p (some o)) m r s M u lo B)(hp:A p=none)(hn:K7 A p):Mk A m r s M u lo B:={
 ovr:=h.ovr.unbase hp hn
 nr:=(Q9 h.nr).2
 nm:=(Q9 h.nm).2
 hr:=h.hr
 hm:=by
  obtain⟨v1,v2,v3,v4,v5,t1,t2,t3,t4,t5,h1,h2,h3⟩:=h.hm
  exact⟨v1,v2,v3,v4,v5,t1,t2,t3,t4,t5,h1,h2,⟨fun i t ht=>⟨(Q9 (h3.tip i t ht).1).2,(h3.tip i t ht).2⟩,h3.inj⟩⟩}
theorem Z7.noIt {A B:Q3}(h:Z7 A B){p:Nat}(hn:K7 B p):K7 A p:=fun j m l e hj=>hn j m l e (h.keep hj)
theorem Mk.base {A:Q3}{m r:Nat}{s:Bs}{M:Model}{u:Bs}{lo:Bool}{B:Q3}(h:Mk A m r s M u lo B){p:Nat}{es0:List (AV×AV)}(hp:B p=none):Mk (A.upd p (some (.mp es0))) m r s M u lo (B.upd p (some (.mp es0))):={
 ovr:=fun k=>by
  by_cases e:k=p
  ·subst e;exact .inl (by rw[Q0,Q0])
  ·rw[Q5 e,Q5 e]
   rcases h.ovr k with h1|⟨h1,h2⟩
   ·exact .inl h1
   ·refine .inr ⟨h1,fun es he j l x hj=> ?_⟩
    by_cases ej:j=p
    ·subst ej;rw[Q0]at hj;cases hj
    ·rw[Q5 ej]at hj;exact h2 es he j l x hj
 nr:=by rw[Q5 (Q6 h.hr hp)];exact h.nr
 nm:=by
  obtain⟨v1,v2,v3,v4,v5,t1,t2,t3,t4,t5,h1,h2,h3⟩:=h.hm
  rw[Q5 (Q6 h1 hp)];exact h.nm
 hr:=by rw[Q5 (Q6 h.hr hp),h.hr]
 hm:=by
  obtain⟨v1,v2,v3,v4,v5,t1,t2,t3,t4,t5,h1,h2,h3⟩:=h.hm
  refine⟨v1,v2,v3,v4,v5,t1,t2,t3,t4,t5,by rw[Q5 (Q6 h1 hp),h1],h2,⟨fun i t ht=> ?_,h3.inj⟩⟩
  obtain⟨k1,k2,k3⟩:=h3.tip i t ht
  have e:=Q6 k3 hp
  exact⟨by rw[Q5 e];exact k1,k2,by rw[Q5 e];exact k3⟩}
def Ut {α:Type}(A:Q3)(m r:Nat)(s:Bs)(lo:Bool)(big:α→Bool)(mk:α→Model):Res α→Out→Q3→Prop
 | .ok a u=>fun o B=>o=.ret ZK∧Mk A m r s (mk a) u (lo||big a) B
 | .bad u=>fun o B=>o=.pan (Ug 59 s u)∧Z7 A B
section
variable {P:Program}{G:Nat→Option (List AV)}{α β:Type}{f:FuncId}{first args cap:List AV}{A B:Q3}{m r:Nat}{s:Bs}{lo lo0:Bool}{big:α→Bool}{big0:β→Bool}{mk:α→Model}{mk0:β→Model}{enc:α→AV}{res:List LRes}
 {d:Option Nat}{l:List LInstr}{st:List Fr}{env:Qo}
theorem Jt {R:Res α}{k:α→Bs→Res β}(h:Qt P G f (first++args++cap) B (Jo r s B lo big enc R))(hov:Z7 A B)(hr0:A r=none)
 (hok:∀a u,R=.ok a u→(Cx.of P G false res (Ut A m r s lo0 big0 mk0 (k a u))).ops l st (putD env d (enc a)) [] (B.upd r (some (rd s u (lo||big a))))):
 (Cx.of P G false res (Ut A m r s lo0 big0 mk0 (R.bind k))).call (.func (.func f) first cap) args d l st env [] B:=by
 cases R with
 |ok a u=>exact Qk h fun o A' hk=>by obtain⟨rfl,rfl⟩:=hk;exact hok a u rfl
 |bad u=>
  refine Qk h fun o A' hk=> ?_
  obtain⟨rfl,rfl⟩:=hk
  show(Cx.of P G false res (Ut A m r s lo0 big0 mk0 (.bad u))).X (Yy _ env) [] (Ug 59 s u) (B.upd r none)
  rw[XF]
  exact⟨_,U2.refl _,rfl,hov.set hr0 (by simp)⟩
theorem Hf {R:Res α}{k:α→Bs→Res β}(h:Qt P G f (first++args++cap) B (Ut A m r s lo big mk R))
 (hok:∀a u B',R=.ok a u→Mk A m r s (mk a) u (lo||big a) B'→(Cx.of P G false res (Ut A m r s lo0 big0 mk0 (k a u))).ops l st (putD env d ZK) [] B'):
 (Cx.of P G false res (Ut A m r s lo0 big0 mk0 (R.bind k))).call (.func (.func f) first cap) args d l st env [] B:=by
 cases R with
 |ok a u=>exact Qk h fun o A' hk=>by obtain⟨rfl,hk⟩:=hk;exact hok a u _ rfl hk
 |bad u=>
  refine Qk h fun o A' hk=> ?_
  obtain⟨rfl,hk⟩:=hk
  show(Cx.of P G false res (Ut A m r s lo0 big0 mk0 (.bad u))).X (Yy _ env) [] (Ug 59 s u) A'
  rw[XF]
  exact⟨_,U2.refl _,rfl,hk⟩
theorem KF {A1:Q3}{R:Res α}{k:α→Bs→Res β}(h:Qt P G f (first++args++cap) B (Ut A1 m r s lo big mk R))(hA:∀B',Z7 A1 B'→Z7 A B')
 (hok:∀a u B',R=.ok a u→Mk A1 m r s (mk a) u (lo||big a) B'→(Cx.of P G false res (Ut A m r s lo0 big0 mk0 (k a u))).ops l st (putD env d ZK) [] B'):
 (Cx.of P G false res (Ut A m r s lo0 big0 mk0 (R.bind k))).call (.func (.func f) first cap) args d l st env [] B:=by
 cases R with
 |ok a u=>exact Qk h fun o A' hk=>by obtain⟨rfl,hk⟩:=hk;exact hok a u _ rfl hk
 |bad u=>
  refine Qk h fun o A' hk=> ?_
  obtain⟨rfl,hk⟩:=hk
  show(Cx.of P G false res (Ut A m r s lo0 big0 mk0 (.bad u))).X (Yy _ env) [] (Ug 59 s u) A'
  rw[XF]
  exact⟨_,U2.refl _,rfl,hA _ hk⟩
theorem WV {a:β}{u:Bs}(h:Mk A m r s (mk0 a) u (lo0||big0 a) B):Vl (some ZK) (Ut A m r s lo0 big0 mk0 (.ok a u)) B:=J0 (Wk.refl _) (U2.refl _) ⟨rfl,h⟩
end
section
variable {C:Cx}{α:Type}{A B:Q3}{no:List Nat}{T:List (Option Nat)}{sz bytes:Nat}{enc:α→List AV}{x y:List α}{v:AV}{τ:Option Nat}{d:Option Nat}{l:List LInstr}{st:List Fr}{env:Qo}{ds:List QU}
theorem SQ (hv:Ie sz enc x v τ)(hT:Tips A no T B){i:Nat}(hi:T[i]? =some τ)(ho:Z7 A B)(hno:∀k∈no,∃o,B k=some o)(hb:(x.length+y.length)*bytes≤140737488355328)(hone:(y.flatMap enc).all AV.one=true)
 (hk:∀v' τ' B',Ie sz enc (x++y) v' τ'→Tips A no (T.set i τ') B'→Z7 A B'→(∀k o,B k=some o→o≠ .tip→B' k=some o)→C.ops l st (putD env d v') ds B'):
 C.app (some (y.length,y.flatMap enc)) sz bytes v d l st env ds B:=by
 have hil:i<T.length:=by rw[fO]at hi;exact hi.1
 rcases hv with⟨rfl,rfl,rfl⟩|⟨t,rfl,rfl⟩
 ·rw[W2]
  split
  ·rename_i h0
   have:y=[]:=fJ.1 h0
   subst this
   exact hk _ none _ (.inl ⟨rfl,rfl,rfl⟩) (by
    have:T.set i none=T:=by
     obtain⟨h,e⟩:=fO.1 hi
     rw[←e];exact List.set_getElem_self h
    rw[this];exact hT) ho fun k o h _=>h
  ·refine⟨by simp at hb;omega,fun t ht=>hk _ (some t) _ (.inr ⟨t,by simp,rfl⟩) (hT.app0 hil ht (ho.gone ht) ?_) (ho.set (ho.gone ht) (by simp)) ?_⟩
   ·intro hm
    obtain⟨o,h⟩:=hno t hm
    rw[ht]at h;cases h
   ·intro k o h1 h2
    rw[Q5 (fun e=>by rw[e,ht]at h1;cases h1),h1]
 ·rw[V9]
  obtain⟨k1,k2,k3⟩:=hT.tip i t hi
  refine⟨rfl,k3,hb,hone,fun t' ht=>hk _ (some t') _ (.inr ⟨t',by simp,rfl⟩) (hT.app hil hi ht (ho.gone ht) ?_) ((ho.set k1 (by simp)).set (ho.gone ht) (by simp)) ?_⟩
  ·intro hm
   obtain⟨o,h⟩:=hno t' hm
   rw[ht]at h;cases h
  ·intro k o h1 h2
   rw[Q5 (fun e=>by rw[e,ht]at h1;cases h1),Q5 (fun e=>by rw[e,k3]at h1;cases h1;exact h2 rfl),h1]
theorem KG {y:α}(hv:Ie sz enc x v τ)(hT:Tips A no T B){i:Nat}(hi:T[i]? =some τ)(ho:Z7 A B)(hno:∀k∈no,∃o,B k=some o)(hb:(x.length+1)*bytes≤140737488355328)(hone:(enc y).all AV.one=true)
 (hk:∀v' τ' B',Ie sz enc (x++[y]) v' τ'→Tips A no (T.set i τ') B'→Z7 A B'→(∀k o,B k=some o→o≠ .tip→B' k=some o)→C.ops l st (putD env d v') ds B'):
 C.app (some (1,enc y)) sz bytes v d l st env ds B:=by
 have:=SQ (C:=C) (y:=[y]) (d:=d) (l:=l) (st:=st) (env:=env) (ds:=ds) hv hT hi ho hno hb (by simpa using hone) hk
 simpa using this
end
section
variable (G:Nat→Option (List AV))
theorem n161 {A B:Q3}{m r:Nat}{s u:Bs}{M:Model}{lo:Bool}{f:Nat}(h:Mk A m r s M u lo B)(hu:At s u)(hs:s.length≤20000)(hf:u.length<f)(hM:M.clocks.length+u.length≤20000):
 Qt Tryz.prog G 161 [.ptr m 0] B (Ut A m r s lo Zs (fun l=>{M with clocks:=M.clocks++l}) (ZV [44] Za f u)):=by
 obtain⟨v1,v2,v3,v4,v5,t1,t2,t3,t4,t5,h1,h2,h3⟩:=h.hm
 have hmr:=h.ne
 refine Q4 l161 (fE rfl) ?_
 simp only[AH,h1,Q1,seval]
 rw[show ZV [44] Za f u=(ZV [44] Za f u).bind fun l u=>.ok l u from by cases ZV [44] Za f u <;> rfl]
 refine Jt (GJ G (one:=Za) (big:=Zs) (enc:=.str) (fn:=81) (first:=[.ptr r 0]) (cap:=[]) h.hr hu hs (by decide) hf (fun A' u' lo' _ hr' hu' _=>WR G hr' hu' (by omega)) QM (fun _=>rfl) (fun _=>rfl)) h.ovr h.nr fun l u1 hl=> ?_
 obtain⟨k1, -⟩:=KC (by decide) QM (Q:=fun _=>True) (fun _ _ _ _=>trivial) hu hl
 have hk:=h.red (u':=u1) (lo':=lo)
 simp only[US,cT,Q5 hmr,h1,QW,Qy,ZB,Q1,seval]
 have h1':(B.upd r (some (rd s u1 lo))) m=_:=(Q5 hmr).trans h1
 refine SQ (enc:=Zl) (i:=0) h2.clocks (h3.upd (some (rd s u1 lo)) (k:=r) (by simp)) rfl hk.ovr (by simp only[dT,dL,or_false];rintro k (rfl|rfl);exact⟨_,hk.hr⟩;exact⟨_,h1'⟩) (by omega) (by simp [Zl,AV.one,cH]) fun v' τ' B' q1 q2 q3 q4=> ?_
 have h4:=q4 m _ h1' (by simp)
 have h5:=q4 r _ hk.hr (by simp [rd,Zz])
 simp only[h4,QW,q1.cells,q1.one,Q1,seval]
 refine WV ⟨q3.set h.nm (by simp),h.nr,h.nm,by rw[Q5 hmr.symm,h5,Qp],v',v2,v3,v4,v5,τ',t2,t3,t4,t5,Q0 ..,⟨q1,h2.vars,h2.chans,h2.funcs,h2.procs⟩,q2.upd _ (by simp)⟩
end
end Go.Proofs.YtcbjbgaefighcaaGreatDoor
