/- Part 19 of the proof. -/
import Derived.Test.YtcbjbgaefighcaaGreatDoorT0
import Derived.Test.YtcbjbgaefighcaaGreatDoorT18
set_option linter.all false
namespace Go.Proofs.YtcbjbgaefighcaaGreatDoor
open Go Go.Ax Go.Proofs
theorem EL {v v':AV}(h:Wk v v'):Xy [v] [v']:=fun κ us hr=>by
 simp only[Qi]at hr⊢
 obtain⟨x,xs,h1,h2,h3⟩:=hr
 exact⟨x,xs,h1,h κ _ h2,h3⟩
theorem JL {v v':AV}{l l':List AV}(h:Wk v v')(hl:Xy l l'):Xy (v::l) (v'::l'):=by
 have:=H2 (EL h) hl
 simpa using this
theorem Xt {α:Type}{w:Bs}{d:α}{p:Bs→Res α}{u:Bs}(h:cur u=w):Jk w d p u=p (adv u):=fC h
theorem Wi {α:Type}{w:Bs}{d:α}{p:Bs→Res α}{u:Bs}(h:¬cur u=w):Jk w d p u=.ok d u:=fD h
theorem one_sl {α:Type}{sz:Nat}{enc:α→List AV}{l:List α}:(Qy sz enc l).one=true:=rfl
theorem one_nil:(AV.raw (.slice none 0 0)).one=true:=rfl
theorem SP:J5 JO=false:=by decide
theorem Cs:XV JO=JO:=by unfold XV;split <;> rfl
def Kg (x:Edge):Edge:={x with cond:=XV x.cond,sets:=x.sets.map IB}
def JQ (x:Edge):Bool:=J5 x.cond||x.sets.any YW
section
variable (G:Nat→Option (List AV))
theorem n172 (hG:Gl G){f:Nat}{A:Q3}{m r:Nat}{mr:List AV}{s u0:Bs}{lo:Bool}(hm:A m=some (.cells (.ptr r 0::mr)))(hr:A r=some (rd s u0 lo))(hu:At s u0)(hs:s.length≤20000)(hf:u0.length<f):
 Qt Tryz.prog G 172 [.ptr m 0] A (Jo r s A lo Zs (fun l=>.agg l.cells) (WZ f u0)):=by
 have hmr:m≠r:=fun e=>by subst e;rw[hm]at hr;cases hr
 refine Q4 l172 (fE rfl) ?_
 simp only[WZ]
 unfold Av
 refine Qd (fun env ds A'=>∃c,env 0=.ptr m 0∧env 2=.ptr c 0∧ds=[]∧A c=none∧QK r A A'∧A' r=some (rd s u0 lo)∧A' c=some (.cells [.str [],i64 0,.raw (.slice none 0 0),i64 0])) ?_ ?_
 ·simp only[Q1,seval]
  intro c hc
  have hcr:=Q6 hr hc
  exact⟨c,rfl,hc,(by repeat first|exact QK.refl _ _|refine QK.at ?_ _|refine QK.set ?_ (by assumption) (by simp)),by rw[Q5 hcr,hr],(by first|exact Q0 .. |rfl)⟩
 rintro env ds B ⟨c,e0,e2,rfl,hc,hov,hBr,hBc⟩
 have hcr:=Q6 hr hc
 have hBm:=hov.keep hmr hm
 have hle0:u0.length≤u0.length:=fG _
 have hle00:=hu.le
 refine Qd (fun env ds A'=>∃n u1,Za u0=.ok n u1∧env 0=.ptr m 0∧env 2=.ptr c 0∧ds=[]∧QK r A A'∧A' r=some (rd s u1 (lo))∧A' c=some (.cells [.str n,i64 0,.raw (.slice none 0 0),i64 0])) ?_ ?_
 ·simp only[e0,e2,hBm,Q1,seval]
  refine QH (WR G hBr hu (by omega)) hov fun n u1 h1=> ?_
  simp only[e0,e2,hBm,hBc,Q5 hcr.symm,Qp,Q1,seval]
  exact⟨n,u1,h1,(hov.at _).set hc (by simp),by rw[Q5 hcr];exact Q0 ..,rfl⟩
 rintro env ds B ⟨n,u1,hn,e0,e2,rfl,hov,hBr,hBc⟩
 simp only[hn,Q7]
 have hBm:=hov.keep hmr hm
 have b1:=QM _ _ _ _ hu hn
 replace hu:=b1.at'
 have hle1:u1.length≤u0.length:=by have:=b1.beq.le;omega
 refine Qd (fun env ds A'=>∃kd u2,Yl u1=.ok kd u2∧env 0=.ptr m 0∧env 2=.ptr c 0∧ds=[]∧QK r A A'∧A' r=some (rd s u2 (lo))∧A' c=some (.cells [.str n,i64 kd,.raw (.slice none 0 0),i64 0])) ?_ ?_
 ·simp only[e0,e2,hBm,Q1,seval]
  refine Q2 (YV G hBr hu hs) ?_
  by_cases hq:cur u1=[117,114,103,101,110,116]
  ·simp only[fA hq,fC hq,e0,e2,Q5 hcr.symm,hBc,Q1,seval]
   exact⟨1,adv u1,by rw[Yl,fC (show cur u1=Zq from hq)],(hov.at _).set hc (by simp),by rw[Q5 hcr];exact Q0 ..,rfl⟩
  ·simp only[fB hq,fD hq,e0,e2,Q5 hmr,hBm,Q1,seval]
   refine Q2 (YV G (by exact Q0 ..) hu hs) ?_
   by_cases hq2:cur u1=[99,111,109,109,105,116,116,101,100]
   ·simp only[fA hq2,fC hq2,e0,e2,Q5 hcr.symm,hBc,Q1,seval]
    exact⟨2,adv u1,by rw[Yl,fD (show¬cur u1=Zq from hq),fC (show cur u1=YT from hq2)],(hov.at _).set hc (by simp),by rw[Q5 hcr];exact Q0 ..,rfl⟩
   ·simp only[fB hq2,fD hq2,e0,e2,Q1,seval]
    exact⟨0,u1,by rw[Yl,fD (show¬cur u1=Zq from hq),fD (show¬cur u1=YT from hq2)],hov.at _,(by first|exact Q0 .. |rfl),by rw[Q5 hcr.symm];exact hBc⟩
 rintro env ds B ⟨kd,u2,hkd,e0,e2,rfl,hov,hBr,hBc⟩
 simp only[hkd,Q7]
 have hBm:=hov.keep hmr hm
 have b2:=Hn _ _ _ _ hu hkd
 replace hu:=b2.at'
 have hle2:u2.length≤u0.length:=by have:=b2.le;omega
 refine Qd (fun env ds A'=>∃iv viv u3,Jk Ua [] (X6 f) u2=.ok iv u3∧Wk viv (Qy 4 Test.cells iv)∧(viv).one=true∧env 0=.ptr m 0∧env 2=.ptr c 0∧ds=[]∧QK r A A'∧A' r=some (rd s u3 (lo))∧A' c=some (.cells [.str n,i64 kd,viv,i64 0])) ?_ ?_
 ·simp only[e0,e2,hBm,Q1,seval]
  refine Q2 (YV G hBr hu hs) ?_
  have hov1:=hov.at (some (rd s (if cur u2=Ua then adv u2 else u2) (lo)))
  have hm1:=hov1.keep hmr hm
  have hr1:(B.upd r (some (rd s (if cur u2=Ua then adv u2 else u2) (lo)))) r=some (rd s (if cur u2=Ua then adv u2 else u2) (lo)):=Q0 ..
  have hc1:(B.upd r (some (rd s (if cur u2=Ua then adv u2 else u2) (lo)))) c=some (.cells [.str n,i64 kd,.raw (.slice none 0 0),i64 0]):=by rw[Q5 hcr.symm,hBc]
  by_cases hq:cur u2=Ua
  ·have b:=Beh.adv hu hq (by decide)
   have:=b.lt
   rw[Xt hq]
   have hq2:=hq
   simp only[fC hq]at hov1 hm1 hr1 hc1
   simp only[Ua]at hq
   simp only[fA hq,fC hq,e0,hm1,Q1,seval]
   generalize(B.upd r (some (rd s (adv u2) (lo))))=B1 at*
   refine QH (CG G hG (f:=f) hr1 b.at' hs (by omega)) hov1 fun iv u3 h1=> ?_
   simp only[e0,e2,hc1,Q5 hcr.symm,Qp,Qy,US,cT,Q1,seval]
   exact⟨iv,_,u3,h1,Wk.refl _,rfl,(hov1.at _).set hc (by simp),by rw[Q5 hcr];exact Q0 ..,rfl⟩
  ·rw[Wi hq]
   simp only[fD hq]at hov1 hm1 hr1 hc1
   simp only[Ua]at hq
   simp only[fB hq,fD hq,e0,e2,Q1,seval]
   exact⟨_,_,_,rfl,Jm,rfl,hov1,(by first|exact Q0 .. |rfl),hc1⟩
 rintro env ds B ⟨iv,viv,u3,hiv,hwiv,oneiv,e0,e2,rfl,hov,hBr,hBc⟩
 simp only[hiv,Q7]
 have hBm:=hov.keep hmr hm
 have b3:=(Ya (by decide) kG.tk0) _ _ _ _ hu hiv
 replace hu:=b3.at'
 have hle3:u3.length≤u0.length:=by have:=b3.le;omega
 refine Qd (fun env ds A'=>∃rt u4,Jk YF 0 JK u3=.ok rt u4∧env 0=.ptr m 0∧env 2=.ptr c 0∧ds=[]∧QK r A A'∧A' r=some (rd s u4 (lo))∧A' c=some (.cells [.str n,i64 kd,viv,i64 rt])) ?_ ?_
 ·simp only[e0,e2,hBm,Q1,seval]
  refine Q2 (YV G hBr hu hs) ?_
  have hov1:=hov.at (some (rd s (if cur u3=YF then adv u3 else u3) (lo)))
  have hm1:=hov1.keep hmr hm
  have hr1:(B.upd r (some (rd s (if cur u3=YF then adv u3 else u3) (lo)))) r=some (rd s (if cur u3=YF then adv u3 else u3) (lo)):=Q0 ..
  have hc1:(B.upd r (some (rd s (if cur u3=YF then adv u3 else u3) (lo)))) c=some (.cells [.str n,i64 kd,viv,i64 0]):=by rw[Q5 hcr.symm,hBc]
  by_cases hq:cur u3=YF
  ·have b:=Beh.adv hu hq (by decide)
   have:=b.lt
   rw[Xt hq]
   have hq2:=hq
   simp only[fC hq]at hov1 hm1 hr1 hc1
   simp only[YF]at hq
   simp only[fA hq,fC hq,e0,hm1,Q1,seval]
   generalize(B.upd r (some (rd s (adv u3) (lo))))=B1 at*
   refine QH (W9 G hG hr1 b.at' hs) hov1 fun rt u4 h1=> ?_
   simp only[e0,e2,hc1,Q5 hcr.symm,Qp,Q1,seval]
   exact⟨rt,u4,h1,(hov1.at _).set hc (by simp),by rw[Q5 hcr];exact Q0 ..,rfl⟩
  ·rw[Wi hq]
   simp only[fD hq]at hov1 hm1 hr1 hc1
   simp only[YF]at hq
   simp only[fB hq,fD hq,e0,e2,Q1,seval]
   exact⟨_,_,rfl,hov1,(by first|exact Q0 .. |rfl),hc1⟩
 rintro env ds B ⟨rt,u4,hrt,e0,e2,rfl,hov,hBr,hBc⟩
 simp only[hrt,Q7]
 have hBm:=hov.keep hmr hm
 have b4:=(Ya (by decide) Oq.tk0) _ _ _ _ hu hrt
 replace hu:=b4.at'
 have hle4:u4.length≤u0.length:=by have:=b4.le;omega
 refine Qd (fun env ds A'=>∃z4 u5,Ql [59] u4=.ok z4 u5∧env 0=.ptr m 0∧env 2=.ptr c 0∧ds=[]∧QK r A A'∧A' r=some (rd s u5 (lo))∧A' c=some (.cells [.str n,i64 kd,viv,i64 rt])) ?_ ?_
 ·simp only[e0,e2,hBm,Q1,seval]
  refine QH (YQ G hBr hu (by omega)) hov fun z4 u5 h1=> ?_
  simp only[e0,e2,hBm,hBc,Q5 hcr.symm,Qp,Q1,seval]
  exact⟨z4,u5,h1,hov.at _,(by first|exact Q0 .. |rfl)⟩
 rintro env ds B ⟨z4,u5,hz4,e0,e2,rfl,hov,hBr,hBc⟩
 simp only[hz4,Q7]
 have hBm:=hov.keep hmr hm
 have b5:=(Qn (by decide)) _ _ _ _ hu hz4
 replace hu:=b5.at'
 have hle5:u5.length≤u0.length:=by have:=b5.beq.le;omega
 simp only[e0,e2,hBc,oneiv,Q1,seval]
 refine VI ?_ ?_ ?_
 ·simp only[Loc.cells];exact YA (JL (Wk.refl _) (JL (Wk.refl _) (JL hwiv (Y6 _))))
 ·exact hov.set hc (by simp)
 ·rw[Q5 hcr,hBr,Qp]
end
theorem Assign.cells_len (a:Assign):a.cells.length=5:=by simp [Assign.cells,Exp.cells_len]
theorem Assign.cells_one (a:Assign):a.cells.all AV.one=true:=by simp only[Assign.cells,dU,Exp.cells_one];rfl
theorem Sn {α β:Type}{sz:Nat}{enc:β→List AV}{g:α→β}{l:List α}:Qy sz enc (l.map g)=Qy sz (fun a=>enc (g a)) l:=by simp [Qy,List.flatMap_map]
section
variable (G:Nat→Option (List AV))
theorem n173 (hG:Gl G){f:Nat}{A:Q3}{m r:Nat}{mr:List AV}{s u0:Bs}{lo:Bool}(hm:A m=some (.cells (.ptr r 0::mr)))(hr:A r=some (rd s u0 lo))(hu:At s u0)(hs:s.length≤20000)(hf:10*u0.length+9≤f):
 Qt Tryz.prog G 173 [.ptr m 0] A (Jo r s A lo JQ (fun x=>.agg (Kg x).cells) (Xq f u0)):=by
 have hmr:m≠r:=fun e=>by subst e;rw[hm]at hr;cases hr
 refine Q4 l173 (fE rfl) ?_
 simp only[Xq]
 unfold Au
 refine Qd (fun env ds A'=>∃c,env 0=.ptr m 0∧env 2=.ptr c 0∧ds=[]∧A c=none∧QK r A A'∧A' r=some (rd s u0 lo)∧A' c=some (.cells [.str [],.str [],.raw (.slice none 0 0),i64 0,.str [],i64 0,.raw (.slice none 0 0),.str [],bo false,.raw (.slice none 0 0),.raw (.slice none 0 0),i64 0,i64 0])) ?_ ?_
 ·simp only[Q1,seval]
  intro c hc
  have hcr:=Q6 hr hc
  exact⟨c,rfl,hc,(by repeat first|exact QK.refl _ _|refine QK.at ?_ _|refine QK.set ?_ (by assumption) (by simp)),by rw[Q5 hcr,hr],(by first|exact Q0 .. |rfl)⟩
 rintro env ds B ⟨c,e0,e2,rfl,hc,hov,hBr,hBc⟩
 have hcr:=Q6 hr hc
 have hBm:=hov.keep hmr hm
 have hle0:u0.length≤u0.length:=fG _
 have hle00:=hu.le
 refine Qd (fun env ds A'=>∃src u1,Za u0=.ok src u1∧env 0=.ptr m 0∧env 2=.ptr c 0∧ds=[]∧QK r A A'∧A' r=some (rd s u1 (lo))∧A' c=some (.cells [.str src,.str [],.raw (.slice none 0 0),i64 0,.str [],i64 0,.raw (.slice none 0 0),.str [],bo false,.raw (.slice none 0 0),.raw (.slice none 0 0),i64 0,i64 0])) ?_ ?_
 ·simp only[e0,e2,hBm,Q1,seval]
  refine QH (WR G hBr hu (by omega)) hov fun src u1 h1=> ?_
  simp only[e0,e2,hBm,hBc,Q5 hcr.symm,Qp,Q1,seval]
  exact⟨src,u1,h1,(hov.at _).set hc (by simp),by rw[Q5 hcr];exact Q0 ..,rfl⟩
 rintro env ds B ⟨src,u1,hsrc,e0,e2,rfl,hov,hBr,hBc⟩
 simp only[hsrc,Q7]
 have hBm:=hov.keep hmr hm
 have b1:=QM _ _ _ _ hu hsrc
 replace hu:=b1.at'
 have hle1:u1.length≤u0.length:=by have:=b1.beq.le;omega
 refine Qd (fun env ds A'=>∃z1 u2,Ql [45,62] u1=.ok z1 u2∧env 0=.ptr m 0∧env 2=.ptr c 0∧ds=[]∧QK r A A'∧A' r=some (rd s u2 (lo))∧A' c=some (.cells [.str src,.str [],.raw (.slice none 0 0),i64 0,.str [],i64 0,.raw (.slice none 0 0),.str [],bo false,.raw (.slice none 0 0),.raw (.slice none 0 0),i64 0,i64 0])) ?_ ?_
 ·simp only[e0,e2,hBm,Q1,seval]
  refine QH (YQ G hBr hu (by omega)) hov fun z1 u2 h1=> ?_
  simp only[e0,e2,hBm,hBc,Q5 hcr.symm,Qp,Q1,seval]
  exact⟨z1,u2,h1,hov.at _,(by first|exact Q0 .. |rfl)⟩
 rintro env ds B ⟨z1,u2,hz1,e0,e2,rfl,hov,hBr,hBc⟩
 simp only[hz1,Q7]
 have hBm:=hov.keep hmr hm
 have b2:=(Qn (by decide)) _ _ _ _ hu hz1
 replace hu:=b2.at'
 have hle2:u2.length≤u0.length:=by have:=b2.beq.le;omega
 refine Qd (fun env ds A'=>∃dst u3,Za u2=.ok dst u3∧env 0=.ptr m 0∧env 2=.ptr c 0∧ds=[]∧QK r A A'∧A' r=some (rd s u3 (lo))∧A' c=some (.cells [.str src,.str dst,.raw (.slice none 0 0),i64 0,.str [],i64 0,.raw (.slice none 0 0),.str [],bo false,.raw (.slice none 0 0),.raw (.slice none 0 0),i64 0,i64 0])) ?_ ?_
 ·simp only[e0,e2,hBm,Q1,seval]
  refine QH (WR G hBr hu (by omega)) hov fun dst u3 h1=> ?_
  simp only[e0,e2,hBm,hBc,Q5 hcr.symm,Qp,Q1,seval]
  exact⟨dst,u3,h1,(hov.at _).set hc (by simp),by rw[Q5 hcr];exact Q0 ..,rfl⟩
 rintro env ds B ⟨dst,u3,hdst,e0,e2,rfl,hov,hBr,hBc⟩
 simp only[hdst,Q7]
 have hBm:=hov.keep hmr hm
 have b3:=QM _ _ _ _ hu hdst
 replace hu:=b3.at'
 have hle3:u3.length≤u0.length:=by have:=b3.beq.le;omega
 refine Qd (fun env ds A'=>∃ts vts u4,Jk Yv [] (X6 f) u3=.ok ts u4∧Wk vts (Qy 4 Test.cells ts)∧(vts).one=true∧env 0=.ptr m 0∧env 2=.ptr c 0∧ds=[]∧QK r A A'∧A' r=some (rd s u4 (lo))∧A' c=some (.cells [.str src,.str dst,vts,i64 0,.str [],i64 0,.raw (.slice none 0 0),.str [],bo false,.raw (.slice none 0 0),.raw (.slice none 0 0),i64 0,i64 0])) ?_ ?_
 ·simp only[e0,e2,hBm,Q1,seval]
  refine Q2 (YV G hBr hu hs) ?_
  have hov1:=hov.at (some (rd s (if cur u3=Yv then adv u3 else u3) (lo)))
  have hm1:=hov1.keep hmr hm
  have hr1:(B.upd r (some (rd s (if cur u3=Yv then adv u3 else u3) (lo)))) r=some (rd s (if cur u3=Yv then adv u3 else u3) (lo)):=Q0 ..
  have hc1:(B.upd r (some (rd s (if cur u3=Yv then adv u3 else u3) (lo)))) c=some (.cells [.str src,.str dst,.raw (.slice none 0 0),i64 0,.str [],i64 0,.raw (.slice none 0 0),.str [],bo false,.raw (.slice none 0 0),.raw (.slice none 0 0),i64 0,i64 0]):=by rw[Q5 hcr.symm,hBc]
  by_cases hq:cur u3=Yv
  ·have b:=Beh.adv hu hq (by decide)
   have:=b.lt
   rw[Xt hq]
   have hq2:=hq
   simp only[fC hq]at hov1 hm1 hr1 hc1
   simp only[Yv]at hq
   simp only[fA hq,fC hq,e0,hm1,Q1,seval]
   generalize(B.upd r (some (rd s (adv u3) (lo))))=B1 at*
   refine QH (CG G hG (f:=f) hr1 b.at' hs (by omega)) hov1 fun ts u4 h1=> ?_
   simp only[e0,e2,hc1,Q5 hcr.symm,Qp,Qy,US,cT,Q1,seval]
   exact⟨ts,_,u4,h1,Wk.refl _,rfl,(hov1.at _).set hc (by simp),by rw[Q5 hcr];exact Q0 ..,rfl⟩
  ·rw[Wi hq]
   simp only[fD hq]at hov1 hm1 hr1 hc1
   simp only[Yv]at hq
   simp only[fB hq,fD hq,e0,e2,Q1,seval]
   exact⟨_,_,_,rfl,Jm,rfl,hov1,(by first|exact Q0 .. |rfl),hc1⟩
 rintro env ds B ⟨ts,vts,u4,hts,hwts,onets,e0,e2,rfl,hov,hBr,hBc⟩
 simp only[hts,Q7]
 have hBm:=hov.keep hmr hm
 have b4:=(Ya (by decide) kG.tk0) _ _ _ _ hu hts
 replace hu:=b4.at'
 have hle4:u4.length≤u0.length:=by have:=b4.le;omega
 refine Qd (fun env ds A'=>∃co kco nco ico xsco vco u5,Jk JM JO (Z0 f) u4=.ok co u5∧XV co=.mk kco nco ico xsco∧Wk vco (.slice 4 xsco.length (Exp.cellsL xsco) none)∧(vco).one=true∧env 0=.ptr m 0∧env 2=.ptr c 0∧ds=[]∧QK r A A'∧A' r=some (rd s u5 (lo||J5 co))∧A' c=some (.cells [.str src,.str dst,vts,i64 kco,.str nco,i64 ico,vco,.str [],bo false,.raw (.slice none 0 0),.raw (.slice none 0 0),i64 0,i64 0])) ?_ ?_
 ·simp only[e0,e2,hBm,Q1,seval]
  refine Q2 (YV G hBr hu hs) ?_
  have hov1:=hov.at (some (rd s (if cur u4=JM then adv u4 else u4) (lo)))
  have hm1:=hov1.keep hmr hm
  have hr1:(B.upd r (some (rd s (if cur u4=JM then adv u4 else u4) (lo)))) r=some (rd s (if cur u4=JM then adv u4 else u4) (lo)):=Q0 ..
  have hc1:(B.upd r (some (rd s (if cur u4=JM then adv u4 else u4) (lo)))) c=some (.cells [.str src,.str dst,vts,i64 0,.str [],i64 0,.raw (.slice none 0 0),.str [],bo false,.raw (.slice none 0 0),.raw (.slice none 0 0),i64 0,i64 0]):=by rw[Q5 hcr.symm,hBc]
  by_cases hq:cur u4=JM
  ·have b:=Beh.adv hu hq (by decide)
   have:=b.lt
   rw[Xt hq]
   have hq2:=hq
   simp only[fC hq]at hov1 hm1 hr1 hc1
   simp only[JM]at hq
   simp only[fA hq,fC hq,e0,hm1,Q1,seval]
   generalize(B.upd r (some (rd s (adv u4) (lo))))=B1 at*
   refine QH (CF G hG (f:=f) hr1 b.at' hs (by omega)) hov1 fun co u5 h1=> ?_
   obtain⟨k1,n1,i1,xs1,hce⟩:∃k1 n1 i1 xs1,XV co=.mk k1 n1 i1 xs1:=by cases XV co;exact⟨_,_,_,_,rfl⟩
   simp only[e0,e2,hc1,Q5 hcr.symm,hce,Zw,Exp.cells,Q1,seval]
   exact⟨co,_,_,_,_,_,u5,h1,hce,Wk.refl _,rfl,(hov1.at _).set hc (by simp),by rw[Q5 hcr];exact Q0 ..,rfl⟩
  ·rw[Wi hq]
   simp only[fD hq]at hov1 hm1 hr1 hc1
   simp only[JM]at hq
   simp only[fB hq,fD hq,e0,e2,Q1,seval]
   exact⟨_,_,_,_,_,_,_,rfl,Cs,Jm,rfl,hov1,by first|(simp [SP];done)|(rw[hr1];simp [SP]),hc1⟩
 rintro env ds B ⟨co,kco,nco,ico,xsco,vco,u5,hco,hcco,hwco,oneco,e0,e2,rfl,hov,hBr,hBc⟩
 simp only[hco,Q7]
 have hBm:=hov.keep hmr hm
 have b5:=(Ya (by decide) JS.tk0) _ _ _ _ hu hco
 replace hu:=b5.at'
 have hle5:u5.length≤u0.length:=by have:=b5.le;omega
 refine Qd (fun env ds A'=>∃ch sn u6,Jk Y8 ([],false) WI u5=.ok (ch,sn) u6∧env 0=.ptr m 0∧env 2=.ptr c 0∧ds=[]∧QK r A A'∧A' r=some (rd s u6 (lo||J5 co))∧A' c=some (.cells [.str src,.str dst,vts,i64 kco,.str nco,i64 ico,vco,.str ch,bo sn,.raw (.slice none 0 0),.raw (.slice none 0 0),i64 0,i64 0])) ?_ ?_
 ·simp only[e0,e2,hBm,Q1,seval]
  refine Q2 (YV G hBr hu hs) ?_
  have hov1:=hov.at (some (rd s (if cur u5=Y8 then adv u5 else u5) (lo||J5 co)))
  have hm1:=hov1.keep hmr hm
  have hr1:(B.upd r (some (rd s (if cur u5=Y8 then adv u5 else u5) (lo||J5 co)))) r=some (rd s (if cur u5=Y8 then adv u5 else u5) (lo||J5 co)):=Q0 ..
  have hc1:(B.upd r (some (rd s (if cur u5=Y8 then adv u5 else u5) (lo||J5 co)))) c=some (.cells [.str src,.str dst,vts,i64 kco,.str nco,i64 ico,vco,.str [],bo false,.raw (.slice none 0 0),.raw (.slice none 0 0),i64 0,i64 0]):=by rw[Q5 hcr.symm,hBc]
  by_cases hq:cur u5=Y8
  ·have b:=Beh.adv hu hq (by decide)
   have:=b.lt
   rw[Xt hq]
   simp only[fC hq]at hov1 hm1 hr1 hc1
   simp only[Y8]at hq
   simp only[fA hq,fC hq,e0,hm1,Q1,seval]
   generalize(B.upd r (some (rd s (adv u5) (lo||J5 co))))=B1 at*
   simp only[WI,Zk]
   refine QH (WR G hr1 b.at' (by omega)) hov1 fun ch v1 h1=> ?_
   have b1:=QM _ _ _ _ b.at' h1
   have hov2:QK r A ((B1.upd r (some (rd s v1 (lo||J5 co)))).upd c (some (.cells [.str src,.str dst,vts,i64 kco,.str nco,i64 ico,vco,.str ch,bo false,.raw (.slice none 0 0),.raw (.slice none 0 0),i64 0,i64 0]))):=(hov1.at _).set hc (by simp)
   have hm2:=hov2.keep hmr hm
   have hr2:((B1.upd r (some (rd s v1 (lo||J5 co)))).upd c (some (.cells [.str src,.str dst,vts,i64 kco,.str nco,i64 ico,vco,.str ch,bo false,.raw (.slice none 0 0),.raw (.slice none 0 0),i64 0,i64 0]))) r=some (rd s v1 (lo||J5 co)):=by rw[Q5 hcr];exact Q0 ..
   have hc2:((B1.upd r (some (rd s v1 (lo||J5 co)))).upd c (some (.cells [.str src,.str dst,vts,i64 kco,.str nco,i64 ico,vco,.str ch,bo false,.raw (.slice none 0 0),.raw (.slice none 0 0),i64 0,i64 0]))) c=some (.cells [.str src,.str dst,vts,i64 kco,.str nco,i64 ico,vco,.str ch,bo false,.raw (.slice none 0 0),.raw (.slice none 0 0),i64 0,i64 0]):=Q0 ..
   simp only[e0,e2,hc1,Q5 hcr.symm,Qp,hm2,Q1,seval]
   generalize((B1.upd r (some (rd s v1 (lo||J5 co)))).upd c (some (.cells [.str src,.str dst,vts,i64 kco,.str nco,i64 ico,vco,.str ch,bo false,.raw (.slice none 0 0),.raw (.slice none 0 0),i64 0,i64 0])))=B2 at*
   refine Q2 (YV G hr2 b1.at' hs) ?_
   by_cases hq3:cur v1=[33]
   ·simp only[fA hq3,fC hq3,e0,e2,Q5 hcr.symm,hc2,Q1,seval]
    exact⟨ch,true,adv v1,by rw[h1,Q7,fC hq3],(hov2.at _).set hc (by simp),by rw[Q5 hcr];exact Q0 ..,rfl⟩
   ·simp only[fB hq3,fD hq3,e0,e2,Q5 hcr.symm,Q5 hmr,Q5 (Q6 hm hc),hc2,hm2,Zk,Q1,seval]
    refine QH (YQ G (s:=s) (u:=v1) (lo:=(lo||J5 co)) ?ha b1.at' (by omega)) ?hb fun _ v2 h2=> ?hd
    case ha=>rw[Q5 hcr];exact Q0 ..
    case hb=>exact(hov2.at _).set hc (by simp)
    simp only[e0,e2,Qp,Q5 hcr.symm,Q1,seval]
    exact⟨ch,false,v2,by rw[h1,Q7,fD hq3,h2];rfl,((hov2.at _).set hc (by simp)).at _,(by first|exact Q0 .. |rfl),rfl⟩
  ·rw[Wi hq]
   simp only[fD hq]at hov1 hm1 hr1 hc1
   simp only[Y8]at hq
   simp only[fB hq,fD hq,e0,e2,Q1,seval]
   exact⟨[],false,u5,rfl,hov1,(by first|exact Q0 .. |rfl),hc1⟩
 rintro env ds B ⟨ch,sn,u6,hch,e0,e2,rfl,hov,hBr,hBc⟩
 simp only[hch,Q7]
 have hBm:=hov.keep hmr hm
 have b6:=(Ya (by decide) tk_chan.tk0) _ _ _ _ hu hch
 replace hu:=b6.at'
 have hle6:u6.length≤u0.length:=by have:=b6.le;omega
 refine Qd (fun env ds A'=>∃ss vss u7,Jk VA [] (ZV [44] (VY f) f) u6=.ok ss u7∧Wk vss (Qy 5 (fun a=>(IB a).cells) ss)∧(vss).one=true∧env 0=.ptr m 0∧env 2=.ptr c 0∧ds=[]∧QK r A A'∧A' r=some (rd s u7 (lo||J5 co||ss.any YW))∧A' c=some (.cells [.str src,.str dst,vts,i64 kco,.str nco,i64 ico,vco,.str ch,bo sn,vss,.raw (.slice none 0 0),i64 0,i64 0])) ?_ ?_
 ·simp only[e0,e2,hBm,Q1,seval]
  refine Q2 (YV G hBr hu hs) ?_
  have hov1:=hov.at (some (rd s (if cur u6=VA then adv u6 else u6) (lo||J5 co)))
  have hm1:=hov1.keep hmr hm
  have hr1:(B.upd r (some (rd s (if cur u6=VA then adv u6 else u6) (lo||J5 co)))) r=some (rd s (if cur u6=VA then adv u6 else u6) (lo||J5 co)):=Q0 ..
  have hc1:(B.upd r (some (rd s (if cur u6=VA then adv u6 else u6) (lo||J5 co)))) c=some (.cells [.str src,.str dst,vts,i64 kco,.str nco,i64 ico,vco,.str ch,bo sn,.raw (.slice none 0 0),.raw (.slice none 0 0),i64 0,i64 0]):=by rw[Q5 hcr.symm,hBc]
  by_cases hq:cur u6=VA
  ·have b:=Beh.adv hu hq (by decide)
   have:=b.lt
   rw[Xt hq]
   have hq2:=hq
   simp only[fC hq]at hov1 hm1 hr1 hc1
   simp only[VA]at hq
   simp only[fA hq,fC hq,e0,hm1,Q1,seval]
   generalize(B.upd r (some (rd s (adv u6) (lo||J5 co))))=B1 at*
   refine QH (n223 G (one:=VY f) (big:=YW) (enc:=fun a=>.agg (IB a).cells) (fn:=224) (first:=[.ptr r 0]) (cap:=[]) hr1 b.at' hs (by decide) (by omega) (fun A' u' lo' _ hr' hu' _=>n224 G hG hr' hu' hs (by omega)) KR (fun a=>(IB a).cells_len) (fun a=>(IB a).cells_one)) hov1 fun ss u7 h1=> ?_
   simp only[e0,e2,hc1,Q5 hcr.symm,Qy,US,cT,Q1,seval]
   exact⟨ss,_,u7,h1,Wk.refl _,rfl,(hov1.at _).set hc (by simp),by rw[Q5 hcr];exact Q0 ..,rfl⟩
  ·rw[Wi hq]
   simp only[fD hq]at hov1 hm1 hr1 hc1
   simp only[VA]at hq
   simp only[fB hq,fD hq,e0,e2,Q1,seval]
   exact⟨_,_,_,rfl,Jm,rfl,hov1,by first|(simp [List.any_nil];done)|(rw[hr1];simp [List.any_nil]),hc1⟩
 rintro env ds B ⟨ss,vss,u7,hss,hwss,oness,e0,e2,rfl,hov,hBr,hBc⟩
 simp only[hss,Q7]
 have hBm:=hov.keep hmr hm
 have b7:=(Ya (by decide) (VU (by decide) KR).tk0) _ _ _ _ hu hss
 replace hu:=b7.at'
 have hle7:u7.length≤u0.length:=by have:=b7.le;omega
 refine Qd (fun env ds A'=>∃cs vcs u8,Jk Jb [] (ZV [44] UL f) u7=.ok cs u8∧Wk vcs (Qy 2 Clear.cells cs)∧(vcs).one=true∧env 0=.ptr m 0∧env 2=.ptr c 0∧ds=[]∧QK r A A'∧A' r=some (rd s u8 (lo||J5 co||ss.any YW))∧A' c=some (.cells [.str src,.str dst,vts,i64 kco,.str nco,i64 ico,vco,.str ch,bo sn,vss,vcs,i64 0,i64 0])) ?_ ?_
 ·simp only[e0,e2,hBm,Q1,seval]
  refine Q2 (YV G hBr hu hs) ?_
  have hov1:=hov.at (some (rd s (if cur u7=Jb then adv u7 else u7) (lo||J5 co||ss.any YW)))
  have hm1:=hov1.keep hmr hm
  have hr1:(B.upd r (some (rd s (if cur u7=Jb then adv u7 else u7) (lo||J5 co||ss.any YW)))) r=some (rd s (if cur u7=Jb then adv u7 else u7) (lo||J5 co||ss.any YW)):=Q0 ..
  have hc1:(B.upd r (some (rd s (if cur u7=Jb then adv u7 else u7) (lo||J5 co||ss.any YW)))) c=some (.cells [.str src,.str dst,vts,i64 kco,.str nco,i64 ico,vco,.str ch,bo sn,vss,.raw (.slice none 0 0),i64 0,i64 0]):=by rw[Q5 hcr.symm,hBc]
  by_cases hq:cur u7=Jb
  ·have b:=Beh.adv hu hq (by decide)
   have:=b.lt
   rw[Xt hq]
   have hq2:=hq
   simp only[fC hq]at hov1 hm1 hr1 hc1
   simp only[Jb]at hq
   simp only[fA hq,fC hq,e0,hm1,Q1,seval]
   generalize(B.upd r (some (rd s (adv u7) (lo||J5 co||ss.any YW))))=B1 at*
   refine QH (n225 G (one:=UL) (big:=Zs) (enc:=fun a=>.agg a.cells) (fn:=226) (first:=[.ptr r 0]) (cap:=[]) hr1 b.at' hs (by decide) (by omega) (fun A' u' lo' _ hr' hu' _=>n226 G hG hr' hu' hs) IH (fun _=>rfl) (fun _=>rfl)) hov1 fun cs u8 h1=> ?_
   simp only[e0,e2,hc1,Q5 hcr.symm,Qp,Qy,US,cT,Q1,seval]
   exact⟨cs,_,u8,h1,Wk.refl _,rfl,(hov1.at _).set hc (by simp),by rw[Q5 hcr];exact Q0 ..,rfl⟩
  ·rw[Wi hq]
   simp only[fD hq]at hov1 hm1 hr1 hc1
   simp only[Jb]at hq
   simp only[fB hq,fD hq,e0,e2,Q1,seval]
   exact⟨_,_,_,rfl,Jm,rfl,hov1,(by first|exact Q0 .. |rfl),hc1⟩
 rintro env ds B ⟨cs,vcs,u8,hcs,hwcs,onecs,e0,e2,rfl,hov,hBr,hBc⟩
 simp only[hcs,Q7]
 have hBm:=hov.keep hmr hm
 have b8:=(Ya (by decide) (VU (by decide) IH).tk0) _ _ _ _ hu hcs
 replace hu:=b8.at'
 have hle8:u8.length≤u0.length:=by have:=b8.le;omega
 refine Qd (fun env ds A'=>∃cst u9,Jk Jz 0 JK u8=.ok cst u9∧env 0=.ptr m 0∧env 2=.ptr c 0∧ds=[]∧QK r A A'∧A' r=some (rd s u9 (lo||J5 co||ss.any YW))∧A' c=some (.cells [.str src,.str dst,vts,i64 kco,.str nco,i64 ico,vco,.str ch,bo sn,vss,vcs,i64 cst,i64 0])) ?_ ?_
 ·simp only[e0,e2,hBm,Q1,seval]
  refine Q2 (YV G hBr hu hs) ?_
  have hov1:=hov.at (some (rd s (if cur u8=Jz then adv u8 else u8) (lo||J5 co||ss.any YW)))
  have hm1:=hov1.keep hmr hm
  have hr1:(B.upd r (some (rd s (if cur u8=Jz then adv u8 else u8) (lo||J5 co||ss.any YW)))) r=some (rd s (if cur u8=Jz then adv u8 else u8) (lo||J5 co||ss.any YW)):=Q0 ..
  have hc1:(B.upd r (some (rd s (if cur u8=Jz then adv u8 else u8) (lo||J5 co||ss.any YW)))) c=some (.cells [.str src,.str dst,vts,i64 kco,.str nco,i64 ico,vco,.str ch,bo sn,vss,vcs,i64 0,i64 0]):=by rw[Q5 hcr.symm,hBc]
  by_cases hq:cur u8=Jz
  ·have b:=Beh.adv hu hq (by decide)
   have:=b.lt
   rw[Xt hq]
   have hq2:=hq
   simp only[fC hq]at hov1 hm1 hr1 hc1
   simp only[Jz]at hq
   simp only[fA hq,fC hq,e0,hm1,Q1,seval]
   generalize(B.upd r (some (rd s (adv u8) (lo||J5 co||ss.any YW))))=B1 at*
   refine QH (W9 G hG hr1 b.at' hs) hov1 fun cst u9 h1=> ?_
   simp only[e0,e2,hc1,Q5 hcr.symm,Qp,Q1,seval]
   exact⟨cst,u9,h1,(hov1.at _).set hc (by simp),by rw[Q5 hcr];exact Q0 ..,rfl⟩
  ·rw[Wi hq]
   simp only[fD hq]at hov1 hm1 hr1 hc1
   simp only[Jz]at hq
   simp only[fB hq,fD hq,e0,e2,Q1,seval]
   exact⟨_,_,rfl,hov1,(by first|exact Q0 .. |rfl),hc1⟩
 rintro env ds B ⟨cst,u9,hcst,e0,e2,rfl,hov,hBr,hBc⟩
 simp only[hcst,Q7]
 have hBm:=hov.keep hmr hm
 have b9:=(Ya (by decide) Oq.tk0) _ _ _ _ hu hcst
 replace hu:=b9.at'
 have hle9:u9.length≤u0.length:=by have:=b9.le;omega
 refine Qd (fun env ds A'=>∃kd u10,Jk Ju 0 JK u9=.ok kd u10∧env 0=.ptr m 0∧env 2=.ptr c 0∧ds=[]∧QK r A A'∧A' r=some (rd s u10 (lo||J5 co||ss.any YW))∧A' c=some (.cells [.str src,.str dst,vts,i64 kco,.str nco,i64 ico,vco,.str ch,bo sn,vss,vcs,i64 cst,i64 kd])) ?_ ?_
 ·simp only[e0,e2,hBm,Q1,seval]
  refine Q2 (YV G hBr hu hs) ?_
  have hov1:=hov.at (some (rd s (if cur u9=Ju then adv u9 else u9) (lo||J5 co||ss.any YW)))
  have hm1:=hov1.keep hmr hm
  have hr1:(B.upd r (some (rd s (if cur u9=Ju then adv u9 else u9) (lo||J5 co||ss.any YW)))) r=some (rd s (if cur u9=Ju then adv u9 else u9) (lo||J5 co||ss.any YW)):=Q0 ..
  have hc1:(B.upd r (some (rd s (if cur u9=Ju then adv u9 else u9) (lo||J5 co||ss.any YW)))) c=some (.cells [.str src,.str dst,vts,i64 kco,.str nco,i64 ico,vco,.str ch,bo sn,vss,vcs,i64 cst,i64 0]):=by rw[Q5 hcr.symm,hBc]
  by_cases hq:cur u9=Ju
  ·have b:=Beh.adv hu hq (by decide)
   have:=b.lt
   rw[Xt hq]
   have hq2:=hq
   simp only[fC hq]at hov1 hm1 hr1 hc1
   simp only[Ju]at hq
   simp only[fA hq,fC hq,e0,hm1,Q1,seval]
   generalize(B.upd r (some (rd s (adv u9) (lo||J5 co||ss.any YW))))=B1 at*
   refine QH (W9 G hG hr1 b.at' hs) hov1 fun kd u10 h1=> ?_
   simp only[e0,e2,hc1,Q5 hcr.symm,Qp,Q1,seval]
   exact⟨kd,u10,h1,(hov1.at _).set hc (by simp),by rw[Q5 hcr];exact Q0 ..,rfl⟩
  ·rw[Wi hq]
   simp only[fD hq]at hov1 hm1 hr1 hc1
   simp only[Ju]at hq
   simp only[fB hq,fD hq,e0,e2,Q1,seval]
   exact⟨_,_,rfl,hov1,(by first|exact Q0 .. |rfl),hc1⟩
 rintro env ds B ⟨kd,u10,hkd,e0,e2,rfl,hov,hBr,hBc⟩
 simp only[hkd,Q7]
 have hBm:=hov.keep hmr hm
 have b10:=(Ya (by decide) Oq.tk0) _ _ _ _ hu hkd
 replace hu:=b10.at'
 have hle10:u10.length≤u0.length:=by have:=b10.le;omega
 refine Qd (fun env ds A'=>∃z10 u11,Ql [59] u10=.ok z10 u11∧env 0=.ptr m 0∧env 2=.ptr c 0∧ds=[]∧QK r A A'∧A' r=some (rd s u11 (lo||J5 co||ss.any YW))∧A' c=some (.cells [.str src,.str dst,vts,i64 kco,.str nco,i64 ico,vco,.str ch,bo sn,vss,vcs,i64 cst,i64 kd])) ?_ ?_
 ·simp only[e0,e2,hBm,Q1,seval]
  refine QH (YQ G hBr hu (by omega)) hov fun z10 u11 h1=> ?_
  simp only[e0,e2,hBm,hBc,Q5 hcr.symm,Qp,Q1,seval]
  exact⟨z10,u11,h1,hov.at _,(by first|exact Q0 .. |rfl)⟩
 rintro env ds B ⟨z10,u11,hz10,e0,e2,rfl,hov,hBr,hBc⟩
 simp only[hz10,Q7]
 have hBm:=hov.keep hmr hm
 have b11:=(Qn (by decide)) _ _ _ _ hu hz10
 replace hu:=b11.at'
 have hle11:u11.length≤u0.length:=by have:=b11.beq.le;omega
 simp only[e0,e2,hBc,onets,oneco,oness,onecs,Q1,seval]
 refine VI ?_ ?_ ?_
 ·simp only[Edge.cells,Kg,hcco,Exp.cells,Sn];exact YA (JL (Wk.refl _) (JL (Wk.refl _) (JL hwts (JL (Wk.refl _) (JL (Wk.refl _) (JL (Wk.refl _) (JL hwco (JL (Wk.refl _) (JL (Wk.refl _) (JL hwss (JL hwcs (Y6 _))))))))))))
 ·exact hov.set hc (by simp)
 ·rw[Q5 hcr,hBr];simp only[JQ,dK]
end
end Go.Proofs.YtcbjbgaefighcaaGreatDoor
