/- Part 36 of the proof. -/
import Derived.Test.YtcbjbgaefighcaaGreatDoorT0
import Derived.Test.YtcbjbgaefighcaaGreatDoorT33
import Derived.Test.YtcbjbgaefighcaaGreatDoorT34
import Derived.Test.YtcbjbgaefighcaaGreatDoorT35
set_option linter.all false
namespace Go.Proofs.YtcbjbgaefighcaaGreatDoor
open Go Go.Ax Go.Proofs
def Xo (w:Bs):Bool:=(match w with|[]=>false|c::_=>Y1 c)&&w.all JI
theorem Vn {w r:Bs}(h:Xo w=true)(hr:Ur r):ZA w r:=by
 cases w with
 |nil=>cases h
 |cons c t=>
  simp only[Xo,cD]at h
  exact TE rfl h.1 h.2 hr
theorem JR {w r:Bs}(h:Xo w=true):skip (w++r)=w++r:=by
 cases w with
 |nil=>cases h
 |cons c t=>
  simp only[Xo,cD]at h
  exact(Ey h.1 (t:=t)).skip_app
theorem Vr {r:Bs}:∀d,skip (J3 d++r)=skip r
 |0=>rfl
 |d+1=>by
  show skip (9::(J3 d++r))=_
  rw[zF,Vr d]
theorem LA {c:UInt8}{r:Bs}(h:LF c=true)(hw:W7 c=false)(h47:c≠47)(h2:c≠40)(h3:c≠63)(h4:([1,2,3,4,5].all fun m=>(JE m [c]).isNone)=true)(h5:JI c=false):Kb (c::r)∧WT 1 (c::r)∧cur (skip (c::r))≠[63]:=
 have e:=WF (r:=r) h hw h47
 ⟨Kx (Qq h5) e (by simpa using h2),Ig e h4,by rw[e];simpa using h3⟩
theorem SS (r:Bs):Kb (59::r)∧WT 1 (59::r)∧cur (skip (59::r))≠[63]:=LA rfl rfl (by decide) (by decide) (by decide) rfl rfl
theorem ST (r:Bs):Kb (41::r)∧WT 1 (41::r)∧cur (skip (41::r))≠[63]:=LA rfl rfl (by decide) (by decide) (by decide) rfl rfl
theorem PK.at' {x:Exp}{t r:Bs}(h:PK x t)(hr:Kb r∧WT 1 r∧cur (skip r)≠[63]):Jl (fun f=>Z0 f (t++r)) (.ok x (skip r)):=h.ex r hr.1 hr.2.1 hr.2.2
theorem Vu {c:UInt8}{r:Bs}(h:LF c=true)(hw:W7 c=false)(h47:c≠47):Ql [c] (skip (c::r))=.ok () (skip r):=KY (Jx hw h47) (ZO h)
theorem Hb {r:Bs}:Ql [61] (skip (32::61::32::r))=.ok () (skip r):=by
 rw[KY (w:=[61]) (r:=32::r) (by rw[QR];exact Jx rfl (by decide)) (WB rfl rfl (by decide)),QR]
theorem Nh {n:Bs}{k:Int}{v:Exp}{r:Bs}(hn:Qe n=true)(hv:ZC v=true):
 Jl (fun f=>(Za (n++(32::61::32::(Qh v++(59::r))))).bind fun n u1=>(Ql [61] u1).bind fun _ u2=>(Z0 f u2).bind fun x u3=>(Ql [59] u3).bind fun _ u4=>.ok (Stmt.mk k n x [] []) u4) (.ok (.mk k n v [] []) (skip r)):=by
 have hp:=If v hv
 refine Jl.cg (Jl.bind (k:=fun _ x u3=>(Ql [59] u3).bind fun _ u4=>.ok (Stmt.mk k n x [] []) u4) (hp.at' (SS r)) (Jl.of fun f=>by rw[Vu rfl rfl (by decide)];rfl)) fun f=> ?_
 rw[JG hn (Qq rfl),Q7,Hb,Q7,hp.sol.skip_app]
theorem txHd_5 {k:Int}{n:Bs}(h:Wu k n 0 0=true∨1≤k∧k≤5):k=1∨k=2∨k=3∨k=4∨k=5:=by
 rcases h with h|h
 ·simp only[Wu,cD,dZ]at h;omega
 ·omega
theorem Sm {s:Stmt}(hs:Uq s=true)(d:Nat):∃w t,Xo w=true∧Ur t∧w≠VM∧w≠VL∧∀r,skip (Vq d s++r)=w++(t++r)∧ZA w (t++r):=by
 obtain⟨k,n,v,b,e⟩:=s
 simp only[Uq,Wu,cD,dZ]at hs
 obtain⟨⟨⟨⟨⟨⟨hk,hn⟩,_⟩,_⟩,_⟩,_⟩,_⟩:=hs
 have key:∀(w t:Bs),Xo w=true→(∃c t',t=c::t'∧JI c=false)→w≠VM→w≠VL→Vq d (.mk k n v b e)=J3 d++(w++t)→∃w t,Xo w=true∧Ur t∧w≠VM∧w≠VL∧∀r,skip (Vq d (.mk k n v b e)++r)=w++(t++r)∧ZA w (t++r):=fun w t hw ⟨c,t',ht,hc⟩ h1 h2 he=>by
  subst ht
  refine⟨w,c::t',hw,Qq hc,h1,h2,fun r=>⟨?_,Vn hw (Qq hc)⟩⟩
  rw[he,cU,Vr,cU,JR hw]
 rcases(show k=1∨k=2∨k=3∨k=4∨k=5 by omega)with rfl|rfl|rfl|rfl|rfl
 ·exact key VE (32::(n++([32,61,32]++(Qh v++[59,10])))) rfl ⟨32,_,rfl,rfl⟩ (by decide) (by decide) (by simp [Vq,Yt,VE])
 ·have hn:Qe n=true:=by simpa using hn
  obtain⟨c,t,e1,h1,h2,h3⟩:=UU hn
  refine key n ([32,61,32]++(Qh v++[59,10])) (by rw[e1]at h2⊢;simp only[Xo,h1,h2,fX]) ⟨32,_,rfl,rfl⟩ (Ko hn (by decide)) (Ko hn (by decide)) (by simp [Vq,Yt])
 ·exact key JM (32::40::(Qh v++([41,32,123,10]++(Zu (d+1) b++((if e.isEmpty then[]else J3 d++([125,32,101,108,115,101,32,123,10]++Zu (d+1) e))++(J3 d++[125,10])))))) rfl ⟨32,_,rfl,rfl⟩ (by decide) (by decide) (by simp [Vq,Yt,JM])
 ·exact key YH (32::40::(Qh v++([41,32,123,10]++(Zu (d+1) b++((if e.isEmpty then[]else J3 d++([125,32,101,108,115,101,32,123,10]++Zu (d+1) e))++(J3 d++[125,10])))))) rfl ⟨32,_,rfl,rfl⟩ (by decide) (by decide) (by simp [Vq,Yt,YH])
 ·exact key VV (32::(Qh v++[59,10])) rfl ⟨32,_,rfl,rfl⟩ (by decide) (by decide) (by simp [Vq,Yt,VV])
theorem EJ {w:Bs}{c:UInt8}{t:Bs}(h:Xo w=true)(hc:Y1 c=false):w≠c::t:=fun e=>by
 rw[e]at h
 simp only[Xo,hc,dE]at h
 cases h
theorem Lv {r:Bs}:skip (32::123::10::r)=[123]++(10::r):=by rw[QR];exact Jx rfl (by decide)
theorem IK {l:List Stmt}{d d':Nat}{r:Bs}(h:∃K,∀f,K≤f→∀g,l.length<g→ZE (fun u=>ZL f u) g [] (skip (Zu d l++(J3 d'++125::r)))=.ok l (skip r)):
 Jl (fun f=>ZF f (skip (32::123::10::(Zu d l++(J3 d'++125::r))))) (.ok l (skip r)):=by
 obtain⟨K,h⟩:=h
 refine Jl.step (p:=fun f=>ZE (fun u=>ZL f u) f [] (skip (Zu d l++(J3 d'++125::r)))) ⟨max K (l.length+1),fun f hf=>h f (by omega) f (by omega)⟩ fun f=> ?_
 simp only[ZF]
 rw[Lv,VW (ZO rfl),Q7,Vw]
mutual
theorem Db:∀(s:Stmt) (_:Uq s=true) (d:Nat) (r:Bs) (_:cur (skip r)≠VM),Jl (fun f=>ZL f (skip (Vq d s++r))) (.ok s (skip r))
 | .mk k n v b e,hs,d,r,hr=>by
  simp only[Uq,Wu,cD,dZ]at hs
  obtain⟨⟨⟨⟨⟨⟨hk,hn⟩,hb⟩,he⟩,hv⟩,hwb⟩,hwe⟩:=hs
  have hp:=If v hv
  have hbs:=HI b hwb (d+1)
  have hes:=HI e hwe (d+1)
  rcases(show k=1∨k=2∨k=3∨k=4∨k=5 by omega)with rfl|rfl|rfl|rfl|rfl
  ·obtain rfl:b=[]:=by simpa using hb
   obtain rfl:e=[]:=by simpa using he
   have hn:Qe n=true:=by simpa using hn
   have e1:skip (Vq d (.mk 1 n v [] [])++r)=VE++(32::(n++(32::61::32::(Qh v++(59::10::r))))):=by
    simp only[Vq,cU,Vr]
    have:=JR (w:=VE) (r:=(32::(n++(32::61::32::(Qh v++(59::10::r)))))) rfl
    simpa[Yt,VE]using this
   rw[e1]
   have ht:ZA VE (32::(n++(32::61::32::(Qh v++(59::10::r))))):=Vn rfl (Qq rfl)
   have h:=Nh (k:=1) (n:=n) (v:=v) (r:=10::r) hn hv
   rw[Vw]at h
   refine Jl.step h fun f=> ?_
   simp only[ZL]
   rw[fD (by rw[ht.cur];decide),fD (by rw[ht.cur];decide),fD (by rw[ht.cur];decide),fC ht.cur,ht.adv,QR,(ZG hn).skip_app]
  ·obtain rfl:b=[]:=by simpa using hb
   obtain rfl:e=[]:=by simpa using he
   have hn:Qe n=true:=by simpa using hn
   have e1:skip (Vq d (.mk 2 n v [] [])++r)=n++(32::61::32::(Qh v++(59::10::r))):=by
    simp only[Vq,cU,Vr]
    have:=(ZG hn).skip_app (r:=32::61::32::(Qh v++(59::10::r)))
    simpa[Yt]using this
   rw[e1]
   have ht:ZA n (32::61::32::(Qh v++(59::10::r))):=HE hn (Qq rfl)
   have h:=Nh (k:=2) (n:=n) (v:=v) (r:=10::r) hn hv
   rw[Vw]at h
   refine Jl.step h fun f=> ?_
   simp only[ZL]
   rw[fD (by rw[ht.cur];exact Ko hn (by decide)),fD (by rw[ht.cur];exact Ko hn (by decide)),fD (by rw[ht.cur];exact Ko hn (by decide)),fD (by rw[ht.cur];exact Ko hn (by decide))]
  ·obtain rfl:n=[]:=by simpa using hn
   obtain⟨X,hX,h2⟩:∃X,skip (Vq d (.mk 3 [] v b e)++r)=JM++(32::40::(Qh v++(41::32::123::10::(Zu (d+1) b++(J3 d++125::X)))))∧
    Jl (fun f=>if cur (skip X)=VM then(ZF f (adv (skip X))).bind fun e u5=>.ok (Stmt.mk 3 [] v b e) u5 else .ok (Stmt.mk 3 [] v b []) (skip X)) (.ok (Stmt.mk 3 [] v b e) (skip r)):=by
    cases e with
    |nil=>
     refine⟨10::r,?_,Jl.of fun f=>by rw[Vw,fD hr]⟩
     simp only[Vq,cU,Vr]
     have:=JR (w:=JM) (r:=32::40::(Qh v++(41::32::123::10::(Zu (d+1) b++(J3 d++125::10::r))))) rfl
     simpa[Yt,JM]using this
    |cons a e=>
     refine⟨32::(VM++(32::123::10::(Zu (d+1) (a::e)++(J3 d++125::10::r)))),?_,?_⟩
     ·simp only[Vq,cU,Vr]
      have:=JR (w:=JM) (r:=32::40::(Qh v++(41::32::123::10::(Zu (d+1) b++(J3 d++125::32::(VM++(32::123::10::(Zu (d+1) (a::e)++(J3 d++125::10::r))))))))) rfl
      simpa[Yt,JM,VM]using this
     ·have ht:ZA VM (32::123::10::(Zu (d+1) (a::e)++(J3 d++125::10::r))):=Vn rfl (Qq rfl)
      rw[QR,JR rfl]
      have h:=IK (hes d (10::r))
      rw[Vw]at h
      refine Jl.cg (Jl.bind (k:=fun _ e u5=>Res.ok (Stmt.mk 3 [] v b e) u5) h Jl.const) fun f=> ?_
      rw[fC ht.cur,ht.adv]
   rw[hX]
   have ht:ZA JM (32::40::(Qh v++(41::32::123::10::(Zu (d+1) b++(J3 d++125::X))))):=Vn rfl (Qq rfl)
   refine Jl.step (Jl.bind (k:=fun f x u2=>(Ql [41] u2).bind fun _ u3=>(ZF f u3).bind fun b u4=>if cur u4=VM then(ZF f (adv u4)).bind fun e u5=>.ok (.mk 3 [] x b e) u5 else .ok (.mk 3 [] x b []) u4) (hp.at' (ST _))
    (Jl.cg (Jl.bind (k:=fun f b u4=>if cur u4=VM then(ZF f (adv u4)).bind fun e u5=>.ok (.mk 3 [] v b e) u5 else .ok (.mk 3 [] v b []) u4) (IK (hbs d X)) h2) fun f=>by rw[Vu rfl rfl (by decide),Q7])) fun f=> ?_
   simp only[ZL]
   rw[fC ht.cur,ht.adv,QR,Vu rfl rfl (by decide),Q7,hp.sol.skip_app]
  ·obtain rfl:n=[]:=by simpa using hn
   obtain rfl:e=[]:=by simpa using he
   have e1:skip (Vq d (.mk 4 [] v b [])++r)=YH++(32::40::(Qh v++(41::32::123::10::(Zu (d+1) b++(J3 d++125::10::r))))):=by
    simp only[Vq,cU,Vr]
    have:=JR (w:=YH) (r:=32::40::(Qh v++(41::32::123::10::(Zu (d+1) b++(J3 d++125::10::r))))) rfl
    simpa[Yt,YH]using this
   rw[e1]
   have ht:ZA YH (32::40::(Qh v++(41::32::123::10::(Zu (d+1) b++(J3 d++125::10::r))))):=Vn rfl (Qq rfl)
   have h:=IK (hbs d (10::r))
   rw[Vw]at h
   refine Jl.step (Jl.bind (k:=fun f x u2=>(Ql [41] u2).bind fun _ u3=>(ZF f u3).bind fun b u4=>.ok (.mk 4 [] x b []) u4) (hp.at' (ST _))
    (Jl.cg (Jl.bind (k:=fun _ b u4=>.ok (.mk 4 [] v b []) u4) h Jl.const) fun f=>by rw[Vu rfl rfl (by decide),Q7])) fun f=> ?_
   simp only[ZL]
   rw[fD (by rw[ht.cur];decide),fC ht.cur,ht.adv,QR,Vu rfl rfl (by decide),Q7,hp.sol.skip_app]
  ·obtain rfl:n=[]:=by simpa using hn
   obtain rfl:b=[]:=by simpa using hb
   obtain rfl:e=[]:=by simpa using he
   have e1:skip (Vq d (.mk 5 [] v [] [])++r)=VV++(32::(Qh v++(59::10::r))):=by
    simp only[Vq,cU,Vr]
    have:=JR (w:=VV) (r:=32::(Qh v++(59::10::r))) rfl
    simpa[Yt,VV]using this
   rw[e1]
   have ht:ZA VV (32::(Qh v++(59::10::r))):=Vn rfl (Qq rfl)
   refine Jl.step (Jl.bind (k:=fun _ x u1=>(Ql [59] u1).bind fun _ u2=>.ok (Stmt.mk 5 [] x [] []) u2) (hp.at' (SS _)) (Jl.of fun f=>by rw[Vu rfl rfl (by decide),Q7,Vw])) fun f=> ?_
   simp only[ZL]
   rw[fD (by rw[ht.cur];decide),fD (by rw[ht.cur];decide),fC ht.cur,ht.adv,QR,hp.sol.skip_app]
theorem HI:∀(l:List Stmt) (_:UX l=true) (d d':Nat) (r:Bs),∃K,∀f,K≤f→∀g,l.length<g→ZE (fun u=>ZL f u) g [] (skip (Zu d l++(J3 d'++125::r)))=.ok l (skip r):=fun l hl d d' r=>by
 obtain⟨K,h⟩:=Mr l hl d d' r []
 exact⟨K,h⟩
theorem Mr:∀(l:List Stmt) (_:UX l=true) (d d':Nat) (r:Bs) (acc:List Stmt),∃K,∀f,K≤f→∀g,l.length<g→ZE (fun u=>ZL f u) g acc (skip (Zu d l++(J3 d'++125::r)))=.ok (acc++l) (skip r)
 |[],_,d,d',r,acc=>⟨0,fun f _ g hg=>by
  obtain⟨g,rfl⟩:∃k,g=k+1:=⟨g - 1,by simp at hg;omega⟩
  have e:skip (Zu d []++(J3 d'++125::r))=[125]++r:=by
   simp only[Zu,cI,Vr];exact Jx rfl (by decide)
  rw[e,ZE,fC (ZO rfl).cur,(ZO rfl).adv,cN]⟩
 |s::l,hl,d,d',r,acc=>by
  simp only[UX,cD]at hl
  obtain⟨hs,hl⟩:=hl
  have e:Zu d (s::l)++(J3 d'++125::r)=Vq d s++(Zu d l++(J3 d'++125::r)):=by simp [Zu]
  have hel:cur (skip (Zu d l++(J3 d'++125::r)))≠VM:=by
   cases l with
   |nil=>
    have e:skip (Zu d []++(J3 d'++125::r))=[125]++r:=by
     simp only[Zu,cI,Vr];exact Jx rfl (by decide)
    rw[e,(ZO rfl).cur];decide
   |cons s2 l2=>
    simp only[UX,cD]at hl
    obtain⟨w,t,_,_,h1,_,h2⟩:=Sm hl.1 d
    rw[Zu,cU,(h2 _).1,(h2 _).2.cur]
    exact h1
  obtain⟨K1,h1⟩:=Db s hs d (Zu d l++(J3 d'++125::r)) hel
  obtain⟨K2,h2⟩:=Mr l hl d d' r (acc++[s])
  obtain⟨w,t,hw,_,_,_,h3⟩:=Sm hs d
  refine⟨max K1 K2,fun f hf g hg=> ?_⟩
  obtain⟨g,rfl⟩:∃k,g=k+1:=⟨g - 1,by simp at hg;omega⟩
  have:=h1 f (by omega)
  simp only at this
  rw[e,ZE,fD (by rw[(h3 _).1,(h3 _).2.cur];exact EJ hw rfl),this,Q7,h2 f (by omega) g (by simpa using hg)]
  simp
end
theorem Ss {x:Func}(hn:Qe x.name=true)(hps:x.params.all Qe=true)(hb:UX x.body=true)(r:Bs):cur (skip (O4 x++r))=VL∧Jl (fun f=>V4 f (skip (O4 x++r))) (.ok x (skip r)):=by
 obtain⟨n,ps,b⟩:=x
 simp only at hn hps hb
 rw[cH]at hps
 have e:skip (O4 ⟨n,ps,b⟩++r)=VL++(32::(n++(40::(Lib.join ps [44,32]++(41::32::123::10::(Zu 1 b++(J3 0++125::10::r))))))):=by
  have:=JR (w:=VL) (r:=32::(n++(40::(Lib.join ps [44,32]++(41::32::123::10::(Zu 1 b++(J3 0++125::10::r))))))) rfl
  simpa[O4,J3]using this
 rw[e]
 have ht:ZA VL (32::(n++(40::(Lib.join ps [44,32]++(41::32::123::10::(Zu 1 b++(J3 0++125::10::r))))))):=Vn rfl (Qq rfl)
 refine⟨ht.cur,?_⟩
 have hp:=Nj (one:=fun _ u=>Za u) (tx:=id) (F:=Ur) (fun q _=>Qq rfl) (r:=32::123::10::(Zu 1 b++(J3 0++125::10::r))) (Qq rfl) (l:=ps) (fun a ha=>ZG (hps a ha)) (fun a ha r hr=>Jl.of fun f=>JG (hps a ha) hr)
 rw[List.map_id]at hp
 have hB:=IK (HI b hb 1 0 (10::r))
 rw[Vw]at hB
 refine Jl.cg (Jl.bind (k:=fun f ps u4=>(ZF f u4).bind fun b u5=>Res.ok (Func.mk n ps b) u5) hp (Jl.bind (k:=fun _ b u5=>Res.ok (Func.mk n ps b) u5) hB Jl.const)) fun f=> ?_
 rw[V4,VW ht,Q7,QR,(ZG hn).skip_app,JG hn (Qq rfl),Q7,Vu rfl rfl (by decide),Q7]
def X3 (ws:List Bs)(R:Bs):Prop:=Ur R∧cur (skip R)∈ws
theorem X3.mono {ws vs:List Bs}{R:Bs}(h:X3 ws R)(hs:∀w∈ws,w∈vs):X3 vs R:=⟨h.1,hs _ h.2⟩
theorem X3.ne {ws:List Bs}{R w:Bs}(h:X3 ws R)(hw:w∉ws):cur (skip R)≠w:=fun e=>hw (e▸h.2)
def jX (ws:List Bs):Bool:=ws.all fun w=>w !=[40]&&w !=[63]&&[1,2,3,4,5].all fun m=>(JE m w).isNone
theorem X3.ex {ws:List Bs}{R:Bs}(h:X3 ws R)(hw:jX ws=true):Kb R∧WT 1 R∧cur (skip R)≠[63]:=by
 have:=cH.1 hw _ h.2
 simp only[cD,bne_iff_ne,ne_eq]at this
 exact⟨⟨h.1,this.1.1⟩,fun m _=>TX this.2 m,this.1.2⟩
theorem H5 {r:Bs}:X3 [[59]] (59::r):=⟨Qq rfl,by rw[WF rfl rfl (by decide)];simp⟩
theorem Xs {ws:List Bs}{R w t:Bs}{is:Bool}(hw:Xo w=true)(h:X3 ws R):X3 (w::ws) (QO is w t++R):=by
 cases is with
 |false=>exact h.mono fun _ h=>dI _ h
 |true=>
  have e:QO true w t++R=32::(w++(32::(t++R))):=by simp [QO]
  rw[e]
  refine⟨Qq rfl,?_⟩
  rw[QR,JR hw,(Vn hw (Qq rfl)).cur]
  simp
theorem Wh {α:Type}{p:Nat→Bs→Res α}{d a:α}{is:Bool}{w t R:Bs}{ws:List Bs}(hw:Xo w=true)(hR:X3 ws R)(hn:w∉ws)(h1:is=true→Ys t∧Jl (fun f=>p f (t++R)) (.ok a (skip R)))(h0:is=false→a=d):
 Jl (fun f=>Jk w d (p f) (skip (QO is w t++R))) (.ok a (skip R)):=by
 cases is with
 |false=>
  refine Jl.of fun f=> ?_
  rw[h0 rfl]
  show Jk w d (p f) (skip R)=_
  rw[Jk,fD (hR.ne hn)]
 |true=>
  obtain⟨hs,h⟩:=h1 rfl
  have e:QO true w t++R=32::(w++(32::(t++R))):=by simp [QO]
  have ht:ZA w (32::(t++R)):=Vn hw (Qq rfl)
  refine h.cg fun f=> ?_
  rw[e,QR,JR hw,Jk,fC ht.cur,ht.adv,QR,hs.skip_app]
theorem Ma {t:Test}(h:Vp t=true):Qe t.clock=true∧ZJ t.c=true:=by simpa[Vp]using h
theorem Da {t:Test}(h:Vp t=true){r:Bs}(hr:Ur r):Wf (XW t++r)=.ok [t] (skip r):=by
 obtain⟨n,lo,st,c⟩:=t
 obtain⟨h1,h2⟩:=Ma h
 simp only at h1 h2
 have hs:=(UA c).skip_app (r:=r)
 have key:∀(w:Bs),skip (w++(32::(Lib.itoa c++r)))=w++(32::(Lib.itoa c++r))→ZA w (32::(Lib.itoa c++r))→XW ⟨n,lo,st,c⟩++r=n++(32::(w++(32::(Lib.itoa c++r))))→
  Wf (XW ⟨n,lo,st,c⟩++r)=(if w=[60]then Res.ok [⟨n,false,true,c⟩] (skip r)else if w=[60,61]then .ok [⟨n,false,false,c⟩] (skip r)else if w=[62]then .ok [⟨n,true,true,c⟩] (skip r)else if w=[62,61]then .ok [⟨n,true,false,c⟩] (skip r)else if w=[61,61]then .ok [⟨n,false,false,c⟩,⟨n,true,false,c⟩] (skip r)else .bad (w++(32::(Lib.itoa c++r)))):=fun w hsk ht e=>by
  rw[e,Wf,JG h1 (Qq rfl),Q7,QR,hsk,ht.cur,ht.adv,QR,hs,WU hr h2]
  rfl
 cases lo <;> cases st
 ·rw[key [60,61] (Jx rfl (by decide)) (KA rfl rfl (by decide)) (by simp [XW])];rfl
 ·rw[key [60] (Jx rfl (by decide)) (WB rfl rfl (by decide)) (by simp [XW])];rfl
 ·rw[key [62,61] (Jx rfl (by decide)) (KA rfl rfl (by decide)) (by simp [XW])];rfl
 ·rw[key [62] (Jx rfl (by decide)) (WB rfl rfl (by decide)) (by simp [XW])];rfl
theorem TL {t:Test}(h:Vp t=true):Ys (XW t):=by
 unfold XW
 simp only[cU]
 exact(ZG (Ma h).1).app
theorem D1 (q:Bs)(hq:Ys q):cur (skip ([32,38,38,32]++q))=[38,38]∧adv (skip ([32,38,38,32]++q))=q:=by
 have e:skip ([32,38,38,32]++q)=[38,38]++(32::q):=by
  show skip (32::38::38::32::q)=_
  rw[QR];exact Jx rfl (by decide)
 have ht:ZA [38,38] (32::q):=KA rfl rfl (by decide)
 rw[e]
 exact⟨ht.cur,by rw[ht.adv,QR,hq.skip]⟩
theorem TO {l:List Test}(h:l.all Vp=true)(hne:l≠[]){r:Bs}(hr:Ur r)(hend:cur (skip r)≠[38,38]):Ys (Yq l)∧Jl (fun f=>X6 f (Yq l++r)) (.ok l (skip r)):=by
 rw[cH]at h
 have hm:l.map XW=(l.map fun t=>[t]).map fun ts=>match ts with|[]=>[]|t::_=>XW t:=by simp
 have hfl:∀l:List Test,(l.map fun t=>[t]).flatten=l:=fun l=>by induction l <;> simp_all
 refine⟨?_,?_⟩
 ·cases l with
  |nil=>exact absurd rfl hne
  |cons a l=>rw[Yq,cJ,Lib.join_cons];exact(TL (h a (by simp))).app
 ·have:=Il (one:=fun _ u=>Wf u) (tx:=fun ts:List Test=>match ts with|[]=>[]|t::_=>XW t) (sep:=[38,38]) (sepT:=[32,38,38,32]) (F:=Ur) D1 (fun q _=>Qq rfl) hr hend (l:=l.map fun t=>[t]) (by simpa using hne)
   (fun a ha=>by obtain⟨t,ht,rfl⟩:=List.mem_map.1 ha;exact TL (h t ht)) (fun a ha r hr=>by obtain⟨t,ht,rfl⟩:=List.mem_map.1 ha;exact Jl.of fun f=>Da (h t ht) hr)
  rw[←hm]at this
  refine Jl.cg (Jl.bind (k:=fun _ l u1=>Res.ok l.flatten u1) this Jl.const) (R:=.ok (l.map fun t=>[t]).flatten (skip r)) (fun f=>rfl) |>fun h=>by rwa [hfl]at h
theorem NU {a:Assign}(hn:Qe a.name=true)(hv:ZC a.val=true){r:Bs}(hr:Kb r∧WT 1 r∧cur (skip r)≠[63]):Jl (fun f=>VY f (VR a++r)) (.ok a (skip r)):=by
 obtain⟨n,v⟩:=a
 have hp:=If v hv
 have e:VR ⟨n,v⟩++r=n++(32::61::32::(Qh v++r)):=by simp [VR]
 refine Jl.cg (Jl.bind (k:=fun _ x u3=>Res.ok (Assign.mk n x) u3) (hp.at' hr) Jl.const) fun f=> ?_
 rw[e,VY,JG hn (Qq rfl),Q7,Hb,Q7,hp.sol.skip_app]
theorem Fp {c:Clear}(hn:Qe c.clock=true)(hv:ZJ c.tv=true){r:Bs}(hr:Ur r):UL (Uc c++r)=.ok c (skip r):=by
 obtain⟨n,v⟩:=c
 have e:Uc ⟨n,v⟩++r=n++(32::61::32::(Lib.itoa v++r)):=by simp [Uc]
 rw[e,UL,JG hn (Qq rfl),Q7,Hb,Q7,(UA v).skip_app,WU hr hv]
 rfl
theorem XG {w r u:Bs}(hw:Xo w=true)(hr:Ur r)(h:u=w++r):cur (skip u)=w∧adv (skip u)=skip r:=by
 have ht:=Vn hw hr
 rw[h,JR hw]
 exact⟨ht.cur,ht.adv⟩
theorem Tb {r:Bs}:Ql [59] (skip (59::r))=.ok () (skip r):=Vu rfl rfl (by decide)
theorem Nz {r:Bs}:Ql [59] (skip (59::10::r))=.ok () (skip r):=by rw[Tb,Vw]
theorem Lc {α:Type}{l:List α}(h:(!l.isEmpty)=true):l≠[]:=by cases l <;> simp_all
theorem IP {α:Type}{l:List α}(h:(!l.isEmpty)=false):l=[]:=by cases l <;> simp_all
theorem Sr {l:Loc}(h:Vm l=true){t:Bs}(htx:XB l=9::(t++[59,10]))(r:Bs):cur (skip (t++59::r))=JD∧Jl (fun f=>WZ f (adv (skip (t++59::r)))) (.ok l (skip r)):=by
 obtain⟨n,k,i,rt⟩:=l
 simp only[Vm,cD,dZ]at h
 obtain⟨⟨⟨h1,h2⟩,h3⟩,h4⟩:=h
 generalize hR3:QO (rt !=0) YF (Lib.itoa rt)++(59::r)=R3
 generalize hR2:QO (!i.isEmpty) Ua (Yq i)++R3=R2
 have t3:X3 [YF,[59]] R3:=hR3▸Xs rfl H5
 have t2:X3 [Ua,YF,[59]] R2:=hR2▸Xs rfl t3
 have e:skip (t++59::r)=JD++(32::(n++(X2 k++R2))):=by
  have et:t=JD++[32]++n++X2 k++QO (!i.isEmpty) Ua (Yq i)++QO (rt !=0) YF (Lib.itoa rt):=by
   have h:9::(t++[59,10])=9::((JD++[32]++n++X2 k++QO (!i.isEmpty) Ua (Yq i)++QO (rt !=0) YF (Lib.itoa rt))++[59,10]):=by rw[←htx];simp [XB]
   exact List.append_cancel_right (List.cons.inj h).2
  rw[←hR2,←hR3,et]
  simp only[cU,cF,cI]
  exact JR (w:=JD) rfl
 have ht:ZA JD (32::(n++(X2 k++R2))):=Vn rfl (Qq rfl)
 rw[e]
 refine⟨ht.cur,?_⟩
 have hk:Ur (X2 k++R2)∧Yl (skip (X2 k++R2))=.ok k (skip R2):=by
  rcases(show k=0∨k=1∨k=2 by omega)with rfl|rfl|rfl
  ·refine⟨t2.1,?_⟩
   show Yl (skip R2)=_
   rw[Yl,fD (t2.ne (by decide)),fD (t2.ne (by decide))]
  ·refine⟨Qq rfl,?_⟩
   show Yl (skip (32::(Zq++R2)))=_
   have:=Vn (w:=Zq) rfl t2.1
   rw[QR,JR rfl,Yl,fC this.cur,this.adv]
  ·refine⟨Qq rfl,?_⟩
   show Yl (skip (32::(YT++R2)))=_
   have:=Vn (w:=YT) rfl t2.1
   rw[QR,JR rfl,Yl,fD (by rw[this.cur];decide),fC this.cur,this.adv]
 have o2:Jl (fun f=>Jk Ua [] (X6 f) (skip R2)) (.ok i (skip R3)):=by
  rw[←hR2]
  exact Wh rfl t3 (by decide) (fun h=>TO h3 (Lc h) t3.1 (t3.ne (by decide))) IP
 have o3:Jl (fun f=>Jk YF 0 JK (skip R3)) (.ok rt (skip (59::r))):=by
  rw[←hR3]
  exact Wh (p:=fun _ u=>JK u) rfl H5 (by decide) (fun _=>⟨UA rt,Jl.of fun f=>WU (Qq rfl) h4⟩) (fun h=>by simpa using h)
 refine Jl.cg (Jl.bind (k:=fun _ i u3=>(Jk YF 0 JK u3).bind fun r u4=>(Ql [59] u4).bind fun _ u5=>.ok (Loc.mk n k i r) u5) o2
  (Jl.bind (k:=fun _ r u4=>(Ql [59] u4).bind fun _ u5=>.ok (Loc.mk n k i r) u5) o3 (Jl.of fun f=>by rw[Tb];rfl))) fun f=> ?_
 rw[ht.adv,QR,(ZG h1).skip_app,WZ,JG h1 hk.1,Q7,hk.2,Q7]
theorem zG {l:Loc}(h:Vm l=true)(r:Bs):cur (skip (XB l++r))=JD∧Jl (fun f=>WZ f (adv (skip (XB l++r)))) (.ok l (skip r)):=by
 obtain⟨t,ht⟩:∃t,XB l=9::(t++[59,10]):=⟨_,rfl⟩
 have:=Sr h ht (10::r)
 rw[Vw]at this
 have e:skip (XB l++r)=skip (t++59::10::r):=by rw[ht];simp
 rw[e];exact this
theorem ME {x:Exp}(h:isNone x=true):x=JO:=by
 obtain⟨k,n,i,xs⟩:=x
 simp only[isNone,cD,beq_iff_eq,List.isEmpty_iff]at h
 obtain⟨⟨⟨rfl,rfl⟩,rfl⟩,rfl⟩:=h
 rfl
theorem TQ {x:Edge}(h:Y2 x=true){t:Bs}(htx:Vi x=9::(t++[59,10]))(r:Bs):cur (skip (t++59::r))=JF∧Jl (fun f=>Xq f (adv (skip (t++59::r)))) (.ok x (skip r)):=by
 obtain⟨a,b,ts,c,ch,sn,ss,cs,co,k⟩:=x
 simp only[Y2,cD]at h
 obtain⟨⟨⟨⟨⟨⟨⟨⟨⟨h1,h2⟩,h3⟩,h4⟩,h5⟩,h6⟩,h7⟩,h8⟩,h9⟩,h10⟩:=h
 rw[cH]at h7 h8
 generalize hR8:QO (k !=0) Ju (Lib.itoa k)++(59::r)=R8
 generalize hR7:QO (co !=0) Jz (Lib.itoa co)++R8=R7
 generalize hR6:QO (!cs.isEmpty) Jb (Lib.join (cs.map Uc) [44,32])++R7=R6
 generalize hR5:QO (!ss.isEmpty) VA (Lib.join (ss.map VR) [44,32])++R6=R5
 generalize hR4:QO (!ch.isEmpty) Y8 (ch++(if sn then[33]else[63]))++R5=R4
 generalize hR3:QO (!(isNone c)) JM (Qh c)++R4=R3
 generalize hR2:QO (!ts.isEmpty) Yv (Yq ts)++R3=R2
 have t8:X3 [Ju,[59]] R8:=hR8▸Xs rfl H5
 have t7:X3 [Jz,Ju,[59]] R7:=hR7▸Xs rfl t8
 have t6:X3 [Jb,Jz,Ju,[59]] R6:=hR6▸Xs rfl t7
 have t5:X3 [VA,Jb,Jz,Ju,[59]] R5:=hR5▸Xs rfl t6
 have t4:X3 [Y8,VA,Jb,Jz,Ju,[59]] R4:=hR4▸Xs rfl t5
 have t3:X3 [JM,Y8,VA,Jb,Jz,Ju,[59]] R3:=hR3▸Xs rfl t4
 have t2:X3 [Yv,JM,Y8,VA,Jb,Jz,Ju,[59]] R2:=hR2▸Xs rfl t3
 have e:skip (t++59::r)=JF++(32::(a++(32::45::62::32::(b++R2)))):=by
  have et:t=JF++[32]++a++[32,45,62,32]++b++QO (!ts.isEmpty) Yv (Yq ts)++QO (!(isNone c)) JM (Qh c)++QO (!ch.isEmpty) Y8 (ch++(if sn then[33]else[63]))++QO (!ss.isEmpty) VA (Lib.join (ss.map VR) [44,32])++QO (!cs.isEmpty) Jb (Lib.join (cs.map Uc) [44,32])++QO (co !=0) Jz (Lib.itoa co)++QO (k !=0) Ju (Lib.itoa k):=by
   have h:9::(t++[59,10])=9::((JF++[32]++a++[32,45,62,32]++b++QO (!ts.isEmpty) Yv (Yq ts)++QO (!(isNone c)) JM (Qh c)++QO (!ch.isEmpty) Y8 (ch++(if sn then[33]else[63]))++QO (!ss.isEmpty) VA (Lib.join (ss.map VR) [44,32])++QO (!cs.isEmpty) Jb (Lib.join (cs.map Uc) [44,32])++QO (co !=0) Jz (Lib.itoa co)++QO (k !=0) Ju (Lib.itoa k))++[59,10]):=by rw[←htx];simp [Vi]
   exact List.append_cancel_right (List.cons.inj h).2
  rw[←hR2,←hR3,←hR4,←hR5,←hR6,←hR7,←hR8,et]
  simp only[cU,cF,cI]
  exact JR (w:=JF) rfl
 have ht:ZA JF (32::(a++(32::45::62::32::(b++R2)))):=Vn rfl (Qq rfl)
 rw[e]
 refine⟨ht.cur,?_⟩
 have o2:Jl (fun f=>Jk Yv [] (X6 f) (skip R2)) (.ok ts (skip R3)):=by
  rw[←hR2]
  exact Wh rfl t3 (by decide) (fun h=>TO h3 (Lc h) t3.1 (t3.ne (by decide))) IP
 have o3:Jl (fun f=>Jk JM JO (Z0 f) (skip R3)) (.ok c (skip R4)):=by
  rw[←hR3]
  refine Wh (p:=fun f u=>Z0 f u) rfl t4 (by decide) (fun h=> ?_) (fun h=>ME (by simpa using h))
  have hw:ZC c=true:=by simpa[(show isNone c=false by simpa using h)]using h4
  exact⟨(If c hw).sol,(If c hw).at' (t4.ex rfl)⟩
 have o4:Jl (fun f=>Jk Y8 ([],false) WI (skip R4)) (.ok (ch,sn) (skip R5)):=by
  rw[←hR4]
  refine Wh (p:=fun _ u=>WI u) rfl t5 (by decide) (fun h=> ?_) (fun h=> ?_)
  ·have hn:Qe ch=true:=by simpa[(show ch.isEmpty=false by simpa using h)]using h6
   refine⟨(ZG hn).app,Jl.of fun f=> ?_⟩
   cases sn with
   |true=>
    have hb:ZA [33] R5:=by
     cases hr:R5 with
     |nil=>rfl
     |cons d R=>
      refine WB rfl rfl ?_
      rintro hm
      have:d=61:=by simpa[Yx]using hm
      subst this
      have h1:=t5.2
      have hsk:skip (61::R)=61::R:=Jx rfl (by decide)
      rw[hr,hsk]at h1
      revert h1
      unfold cur
      cases hn:Z4 (61::R)with
      |zero=>simp [VA,Jb,Jz,Ju]
      |succ m=>rw[List.take_succ_cons];simp [VA,Jb,Jz,Ju]
    have e:ch++(if true=true then[33]else[63])++R5=ch++([33]++R5):=by simp
    rw[e,WI,JG hn (r:=[33]++R5) (Qq rfl),Q7,show skip ([33]++R5)=[33]++R5 from Jx rfl (by decide),fC hb.cur,hb.adv]
   |false=>
    have hb:ZA [63] R5:=ZO rfl
    have e:ch++(if false=true then[33]else[63])++R5=ch++([63]++R5):=by simp
    rw[e,WI,JG hn (r:=[63]++R5) (Qq rfl),Q7,show skip ([63]++R5)=[63]++R5 from Jx rfl (by decide),fD (by rw[hb.cur];decide),VW hb]
    rfl
  ·have:ch=[]:=by simpa using h
   subst this
   cases sn with
   |true=>simp at h5
   |false=>rfl
 have o5:Jl (fun f=>Jk VA [] (ZV [44] (VY f) f) (skip R5)) (.ok ss (skip R6)):=by
  rw[←hR5]
  refine Wh rfl t6 (by decide) (fun h=>⟨?_,?_⟩) IP
  ·cases ss with
   |nil=>cases h
   |cons x ss=>
    have:=h7 x (by simp)
    simp only[cD]at this
    rw[cJ,Lib.join_cons,VR]
    simp only[cU]
    exact(ZG this.1).app
  ·exact Il (one:=fun f u=>VY f u) (tx:=VR) (F:=fun r=>Kb r∧WT 1 r∧cur (skip r)≠[63]) KU MG (t6.ex rfl) (t6.ne (by decide)) (Lc h)
    (fun x hx=>by have:=h7 x hx;simp only[cD]at this;rw[VR];simp only[cU];exact(ZG this.1).app)
    (fun x hx r hr=>by have:=h7 x hx;simp only[cD]at this;exact NU this.1 this.2 hr)
 have o6:Jl (fun f=>Jk Jb [] (ZV [44] UL f) (skip R6)) (.ok cs (skip R7)):=by
  rw[←hR6]
  refine Wh rfl t7 (by decide) (fun h=>⟨?_,?_⟩) IP
  ·cases cs with
   |nil=>cases h
   |cons x cs=>
    have:=h8 x (by simp)
    simp only[cD]at this
    rw[cJ,Lib.join_cons,Uc]
    simp only[cU]
    exact(ZG this.1).app
  ·exact Il (one:=fun _ u=>UL u) (tx:=Uc) (F:=Ur) KU (fun q _=>Qq rfl) t7.1 (t7.ne (by decide)) (Lc h)
    (fun x hx=>by have:=h8 x hx;simp only[cD]at this;rw[Uc];simp only[cU];exact(ZG this.1).app)
    (fun x hx r hr=>by have:=h8 x hx;simp only[cD]at this;exact Jl.of fun f=>Fp this.1 this.2 hr)
 have o7:Jl (fun f=>Jk Jz 0 JK (skip R7)) (.ok co (skip R8)):=by
  rw[←hR7]
  exact Wh (p:=fun _ u=>JK u) rfl t8 (by decide) (fun _=>⟨UA co,Jl.of fun f=>WU t8.1 h9⟩) (fun h=>by simpa using h)
 have o8:Jl (fun f=>Jk Ju 0 JK (skip R8)) (.ok k (skip (59::r))):=by
  rw[←hR8]
  exact Wh (p:=fun _ u=>JK u) rfl H5 (by decide) (fun _=>⟨UA k,Jl.of fun f=>WU (Qq rfl) h10⟩) (fun h=>by simpa using h)
 refine Jl.cg (Jl.bind (k:=fun f ts u4=>(Jk JM JO (Z0 f) u4).bind fun c u5=>
  (Jk Y8 ([],false) WI u5).bind fun ch u6=>(Jk VA [] (ZV [44] (VY f) f) u6).bind fun ss u7=>
  (Jk Jb [] (ZV [44] UL f) u7).bind fun cs u8=>(Jk Jz 0 JK u8).bind fun co u9=>
  (Jk Ju 0 JK u9).bind fun k u10=>(Ql [59] u10).bind fun _ u11=>.ok (Edge.mk a b ts c ch.1 ch.2 ss cs co k) u11) o2 (Jl.bind o3 (Jl.bind o4 (Jl.bind o5 (Jl.bind o6 (Jl.bind o7 (Jl.bind o8 (Jl.of fun f=>by rw[Tb];rfl)))))))) fun f=> ?_
 have ha:ZA [45,62] (32::(b++R2)):=KA rfl rfl (by decide)
 rw[ht.adv,QR,(ZG h1).skip_app,Xq,JG h1 (Qq rfl),Q7,QR,show skip (45::62::32::(b++R2))=[45,62]++(32::(b++R2))from Jx rfl (by decide),VW ha,Q7,QR,(ZG h2).skip_app,JG h2 t2.1,Q7]
theorem St {x:Edge}(h:Y2 x=true)(r:Bs):cur (skip (Vi x++r))=JF∧Jl (fun f=>Xq f (adv (skip (Vi x++r)))) (.ok x (skip r)):=by
 obtain⟨t,ht⟩:∃t,Vi x=9::(t++[59,10]):=⟨_,rfl⟩
 have:=TQ h ht (10::r)
 rw[Vw]at this
 have e:skip (Vi x++r)=skip (t++59::10::r):=by rw[ht];simp
 rw[e];exact this
theorem Sq {α:Type}{one:Nat→Bs→Res α}{tx:α→Bs}{w q:Bs}(hq:cur (skip q)≠w):∀(l:List α),(∀a∈l,∀r,cur (skip (tx a++r))=w∧Jl (fun f=>one f (adv (skip (tx a++r)))) (.ok a (skip r)))→∀acc,∃K,∀f,K≤f→∀g,l.length<g→Jg w (one f) g acc (skip (l.flatMap tx++q))=.ok (acc++l) (skip q)
 |[],_,acc=>⟨0,fun f _ g hg=>by
  obtain⟨g,rfl⟩:∃k,g=k+1:=⟨g - 1,by simp at hg;omega⟩
  show Jg w (one f) (g+1) acc (skip q)=_
  rw[Jg,fD hq,cN]⟩
 |a::l,h,acc=>by
  obtain⟨hc,K1,h1⟩:=h a (by simp) (l.flatMap tx++q)
  obtain⟨K2,h2⟩:=Sq hq l (fun a ha=>h a (by simp [ha])) (acc++[a])
  refine⟨max K1 K2,fun f hf g hg=> ?_⟩
  obtain⟨g,rfl⟩:∃k,g=k+1:=⟨g - 1,by simp at hg;omega⟩
  have:=h1 f (by omega)
  simp only at this
  rw[dD,cU,Jg,fC hc,this,Q7,h2 f (by omega) g (by simpa using hg)]
  simp
theorem HJ {α:Type}{one:Nat→Bs→Res α}{tx:α→Bs}{w q:Bs}(hq:cur (skip q)≠w){l:List α}(h:∀a∈l,∀r,cur (skip (tx a++r))=w∧Jl (fun f=>one f (adv (skip (tx a++r)))) (.ok a (skip r))):Jl (fun f=>Jg w (one f) f [] (skip (l.flatMap tx++q))) (.ok l (skip q)):=by
 obtain⟨K,hK⟩:=Sq hq l h []
 exact⟨max K (l.length+1),fun f hf=>hK f (by omega) f (by omega)⟩
theorem HR {α:Type}{tx:α→Bs}{w v q:Bs}(hwv:w≠v){l:List α}(h:∀a∈l,∀r,cur (skip (tx a++r))=w)(hq:cur (skip q)≠v):cur (skip (l.flatMap tx++q))≠v:=by
 cases l with
 |nil=>exact hq
 |cons a l=>rw[dD,cU,h a (by simp)];exact hwv
theorem Sp {p:Proc}(h:YG p=true)(r:Bs):cur (skip (Ue p++r))=ZQ∧Jl (fun f=>Xp f (adv (skip (Ue p++r)))) (.ok p (skip r)):=by
 obtain⟨n,i,ls,es⟩:=p
 simp only[YG,cD,cH]at h
 obtain⟨⟨⟨h1,h2⟩,h3⟩,h4⟩:=h
 have e:skip (Ue ⟨n,i,ls,es⟩++r)=ZQ++(32::(n++(32::(V1++(32::(i++(32::123::10::(ls.flatMap XB++(es.flatMap Vi++(125::10::r)))))))))):=by
  have:=JR (w:=ZQ) (r:=32::(n++(32::(V1++(32::(i++(32::123::10::(ls.flatMap XB++(es.flatMap Vi++(125::10::r)))))))))) rfl
  simpa[Ue,ZQ,V1]using this
 have ht:ZA ZQ (32::(n++(32::(V1++(32::(i++(32::123::10::(ls.flatMap XB++(es.flatMap Vi++(125::10::r)))))))))):=Vn rfl (Qq rfl)
 have hi:ZA V1 (32::(i++(32::123::10::(ls.flatMap XB++(es.flatMap Vi++(125::10::r)))))):=Vn rfl (Qq rfl)
 rw[e]
 refine⟨ht.cur,?_⟩
 have hb:skip (125::10::r)=[125]++(10::r):=Jx rfl (by decide)
 have c125:cur (skip (125::10::r))=[125]:=by rw[hb];exact(ZO rfl).cur
 have o1:=HJ (one:=fun f u=>WZ f u) (tx:=XB) (w:=JD) (q:=es.flatMap Vi++(125::10::r)) (HR (w:=JF) (by decide) (fun x hx r=>(St (h4 x hx) r).1) (by rw[c125];decide)) (l:=ls) (fun x hx r=>zG (h3 x hx) r)
 have o2:=HJ (one:=fun f u=>Xq f u) (tx:=Vi) (w:=JF) (q:=125::10::r) (by rw[c125];decide) (l:=es) (fun x hx r=>St (h4 x hx) r)
 refine Jl.cg (Jl.bind (k:=fun f ls u5=>(Jg JF (Xq f) f [] u5).bind fun es u6=>(Ql [125] u6).bind fun _ u7=>.ok (Proc.mk n i ls es) u7) o1 (Jl.bind (k:=fun _ es u6=>(Ql [125] u6).bind fun _ u7=>.ok (Proc.mk n i ls es) u7) o2 (Jl.of fun f=>by rw[Vu rfl rfl (by decide),Vw];rfl))) fun f=> ?_
 rw[ht.adv,QR,(ZG h1).skip_app,Xp,JG h1 (Qq rfl),Q7,QR,JR (w:=V1) rfl,VW hi,Q7,QR,(ZG h2).skip_app,JG h2 (Qq rfl),Q7,Lv,VW (ZO rfl),Q7,Vw]
def N3 (t:Bs)(x:Decls):Prop:=∀r,∃K,∀f,K≤f→Yp f (skip (t++r))=some (.ok x (skip (59::10::r)))
theorem TR {q:Bs}(hq:∀f,Yp f (skip q)=none):∀(L:List (Bs×Decls)),(∀p∈L,N3 p.1 p.2)→∀d,∃K,∀f,K≤f→∀g,L.length<g→Jc f g d (skip (L.flatMap (·.1)++q))=.ok (L.foldl (fun(d:Decls) p=>d.add p.2) d) (skip q)
 |[],_,d=>⟨0,fun f _ g hg=>by
  obtain⟨g,rfl⟩:∃k,g=k+1:=⟨g - 1,by simp at hg;omega⟩
  show Jc f (g+1) d (skip q)=_
  rw[Jc,hq];rfl⟩
 |p::L,h,d=>by
  obtain⟨K1,h1⟩:=h p (by simp) (L.flatMap (·.1)++q)
  obtain⟨K2,h2⟩:=TR hq L (fun a ha=>h a (by simp [ha])) (d.add p.2)
  refine⟨max K1 K2,fun f hf g hg=> ?_⟩
  obtain⟨g,rfl⟩:∃k,g=k+1:=⟨g - 1,by simp at hg;omega⟩
  rw[dD,cU,Jc,h1 f (by omega)]
  simp only[Q7]
  rw[Nz,Q7,h2 f (by omega) g (by simpa using hg)]
  rfl
theorem Rk {l:List Bs}(hl:∀n∈l,Qe n=true)(hne:l≠[])(r:Bs):Ys (Lib.join l [44,32])∧Jl (fun f=>ZV [44] Za f (Lib.join l [44,32]++(59::10::r))) (.ok l (skip (59::10::r))):=by
 have c59:cur (skip (59::10::r))=[59]:=WF rfl rfl (by decide)
 refine⟨?_,?_⟩
 ·cases l with
  |nil=>exact absurd rfl hne
  |cons a l=>rw[Lib.join_cons];exact(ZG (hl a (by simp))).app
 ·have:=Il (one:=fun _ u=>Za u) (tx:=id) (F:=Ur) KU (fun q _=>Qq rfl) (r:=59::10::r) (Qq rfl) (by rw[c59];decide) hne (fun a ha=>ZG (hl a ha)) (fun a ha r hr=>Jl.of fun f=>JG (hl a ha) hr)
  rwa [List.map_id]at this
theorem PJ {l:List Bs}(hl:∀n∈l,Qe n=true)(hne:l≠[]):N3 (XT l) ⟨l,[],[]⟩:=fun r=>by
 obtain⟨hs,K,h⟩:=Rk hl hne r
 refine⟨K,fun f hf=> ?_⟩
 have e:XT l++r=Kw++(32::(Lib.join l [44,32]++(59::10::r))):=by
  cases l with
  |nil=>exact absurd rfl hne
  |cons a l=>simp [XT]
 have hc:=XG (w:=Kw) rfl (Qq rfl) e
 have:=h f hf
 simp only at this
 rw[Yp,fC hc.1,hc.2,QR,hs.skip_app,this]
 rfl
theorem Cp {v:Var}(h:W5 v=true):N3 (UH v) ⟨[],[v],[]⟩:=fun r=>⟨0,fun f _=>by
 obtain⟨n,a,b,c⟩:=v
 simp only[W5,cD]at h
 obtain⟨h1,h2,h3,h4⟩:=h
 have e:UH ⟨n,a,b,c⟩++r=VE++(32::(n++(32::(M2++(32::(Lib.itoa a++([46,46]++(Lib.itoa b++(32::61::32::(Lib.itoa c++(59::10::r))))))))))):=by simp [UH]
 have hc:=XG (w:=VE) rfl (Qq rfl) e
 have hi:ZA M2 (32::(Lib.itoa a++([46,46]++(Lib.itoa b++(32::61::32::(Lib.itoa c++(59::10::r))))))):=Vn rfl (Qq rfl)
 have hd:ZA [46,46] (Lib.itoa b++(32::61::32::(Lib.itoa c++(59::10::r)))):=KA rfl rfl (by decide)
 rw[Yp,fD (by rw[hc.1];decide),fC hc.1,hc.2,QR,(ZG h1).skip_app,Iy,JG h1 (Qq rfl),Q7,QR,JR (w:=M2) rfl,VW hi,Q7,QR,(UA a).skip_app,WU (r:=[46,46]++(Lib.itoa b++(32::61::32::(Lib.itoa c++(59::10::r))))) (Qq rfl) h2,Q7,
  show skip ([46,46]++(Lib.itoa b++(32::61::32::(Lib.itoa c++(59::10::r)))))=[46,46]++(Lib.itoa b++(32::61::32::(Lib.itoa c++(59::10::r))))from Jx rfl (by decide),
  VW hd,Q7,(UA b).skip_app,WU (Qq rfl) h3,Q7,Hb,Q7,(UA c).skip_app,WU (Qq rfl) h4]
 rfl⟩
theorem Eh {c:Chan}(h:Ob c=true):N3 (Vb c) ⟨[],[],[c]⟩:=fun r=>by
 obtain⟨n,b,g⟩:=c
 have hn:Qe n=true:=h
 obtain⟨_,K,hl⟩:=Rk (l:=[n]) (by simpa using hn) (by simp) r
 rw[Lib.join_one]at hl
 have hch:∀f,K≤f→∀b g,ZM f b g (n++(59::10::r))=.ok [⟨n,b,g⟩] (skip (59::10::r)):=fun f hf b g=>by
  have:=hl f hf
  simp only at this
  rw[ZM,this];rfl
 have e:Vb ⟨n,b,g⟩++r=(if b then Jr++[32]else[])++((if g then Zq++[32]else[])++(J7++(32::(n++(59::10::r))))):=by simp [Vb]
 have c0:=XG (w:=J7) (r:=32::(n++(59::10::r))) rfl (Qq rfl) rfl
 have m0:Ql J7 (skip (J7++(32::(n++(59::10::r)))))=.ok () (n++(59::10::r)):=by rw[KY (JR rfl) (Vn rfl (Qq rfl)),QR,(ZG hn).skip_app]
 refine⟨K,fun f hf=> ?_⟩
 rw[e]
 cases b <;> cases g
 ·show Yp f (skip (J7++(32::(n++(59::10::r)))))=_
  rw[Yp,fD (by rw[c0.1];decide),fD (by rw[c0.1];decide),fC c0.1,c0.2,QR,(ZG hn).skip_app,hch f hf]
  rfl
 ·have c1:=XG (w:=Zq) (r:=32::(J7++(32::(n++(59::10::r))))) rfl (Qq rfl) rfl
  show Yp f (skip (Zq++(32::(J7++(32::(n++(59::10::r)))))))=_
  rw[Yp,fD (by rw[c1.1];decide),fD (by rw[c1.1];decide),fD (by rw[c1.1];decide),fC c1.1,c1.2,QR,m0,Q7,hch f hf]
  rfl
 ·have c1:=XG (w:=Jr) (r:=32::(J7++(32::(n++(59::10::r))))) rfl (Qq rfl) rfl
  show Yp f (skip (Jr++(32::(J7++(32::(n++(59::10::r)))))))=_
  rw[Yp,fD (by rw[c1.1];decide),fD (by rw[c1.1];decide),fD (by rw[c1.1];decide),fD (by rw[c1.1];decide),fC c1.1,c1.2,QR,fD (by rw[c0.1];decide),m0,Q7,hch f hf]
  rfl
 ·have c1:=XG (w:=Jr) (r:=32::(Zq++(32::(J7++(32::(n++(59::10::r))))))) rfl (Qq rfl) rfl
  have c2:=XG (w:=Zq) (r:=32::(J7++(32::(n++(59::10::r))))) rfl (Qq rfl) rfl
  show Yp f (skip (Jr++(32::(Zq++(32::(J7++(32::(n++(59::10::r)))))))))=_
  rw[Yp,fD (by rw[c1.1];decide),fD (by rw[c1.1];decide),fD (by rw[c1.1];decide),fD (by rw[c1.1];decide),fC c1.1,c1.2,QR,fC c2.1,c2.2,QR,m0,Q7,hch f hf]
  rfl
theorem TP {q:Bs}(hq:cur (skip q)≠VL):∀(l:List Func),Us l=true→∀acc,∃K,∀f,K≤f→∀g,l.length<g→U6 f g acc (skip (VD l++q))=.ok (acc++l) (skip q)
 |[],_,acc=>⟨0,fun f _ g hg=>by
  obtain⟨g,rfl⟩:∃k,g=k+1:=⟨g - 1,by simp at hg;omega⟩
  show U6 f (g+1) acc (skip q)=_
  rw[U6,fD hq,cN]⟩
 |x::l,h,acc=>by
  simp only[Us,dU,cD]at h
  obtain⟨⟨⟨h1,h2⟩,h3⟩,hl⟩:=h
  obtain⟨hc,K1,h4⟩:=Ss h1 h2 h3 (VD l++q)
  obtain⟨K2,h5⟩:=TP hq l (by simpa only[Us]using hl) (acc++[x])
  refine⟨max K1 K2,fun f hf g hg=> ?_⟩
  obtain⟨g,rfl⟩:∃k,g=k+1:=⟨g - 1,by simp at hg;omega⟩
  have:=h4 f (by omega)
  simp only at this
  have e:VD (x::l)++q=O4 x++(VD l++q):=by simp [VD]
  rw[e,U6,fC hc,this,Q7,h5 f (by omega) g (by simpa using hg)]
  simp
theorem Nv:∀(l:List Var) (d:Decls),(l.map fun v=>(UH v,(⟨[],[v],[]⟩:Decls))).foldl (fun(d:Decls) p=>d.add p.2) d=⟨d.clocks,d.vars++l,d.chans⟩
 |[],d=>by simp
 |v::l,d=>by rw[cJ,List.foldl_cons,Nv l];simp [Decls.add]
theorem Nx:∀(l:List Chan) (d:Decls),(l.map fun v=>(Vb v,(⟨[],[],[v]⟩:Decls))).foldl (fun(d:Decls) p=>d.add p.2) d=⟨d.clocks,d.vars,d.chans++l⟩
 |[],d=>by simp
 |v::l,d=>by rw[cJ,List.foldl_cons,Nx l];simp [Decls.add]
def IF (ck:List Bs)(vs:List Var)(cs:List Chan):List (Bs×Decls):=(if ck=[]then[]else[(XT ck,⟨ck,[],[]⟩)])++(vs.map fun v=>(UH v,⟨[],[v],[]⟩))++cs.map fun c=>(Vb c,⟨[],[],[c]⟩)
theorem Ek (ck:List Bs)(vs:List Var)(cs:List Chan):(IF ck vs cs).flatMap (·.1)=XT ck++vs.flatMap UH++cs.flatMap Vb:=by
 have e1:((vs.map fun v=>(UH v,(⟨[],[v],[]⟩:Decls))).flatMap (·.1))=vs.flatMap UH:=by rw[List.flatMap_map]
 have e2:((cs.map fun v=>(Vb v,(⟨[],[],[v]⟩:Decls))).flatMap (·.1))=cs.flatMap Vb:=by rw[List.flatMap_map]
 rw[IF,List.flatMap_append,List.flatMap_append,e1,e2]
 by_cases hc:ck=[]
 ·subst hc;simp [XT]
 ·simp [hc]
theorem PM (ck:List Bs)(vs:List Var)(cs:List Chan):(IF ck vs cs).foldl (fun(d:Decls) p=>d.add p.2) (⟨[],[],[]⟩:Decls)=(⟨ck,vs,cs⟩:Decls):=by
 rw[IF,List.foldl_append,List.foldl_append,Nv,Nx]
 by_cases hc:ck=[]
 ·subst hc;simp
 ·simp [hc,Decls.add]
theorem El {ck:List Bs}{vs:List Var}{cs:List Chan}(h2:∀n∈ck,Qe n=true)(h3:∀v∈vs,W5 v=true)(h4:∀c∈cs,Ob c=true):∀p∈IF ck vs cs,N3 p.1 p.2:=fun p hp=>by
 rcases fW.1 hp with hp|hp
 ·rcases fW.1 hp with hp|hp
  ·by_cases hc:ck=[]
   ·rw[fC hc]at hp;cases hp
   ·rw[fD hc,dV]at hp;subst hp;exact PJ h2 hc
  ·obtain⟨v,hv,rfl⟩:=List.mem_map.1 hp;exact Cp (h3 v hv)
 ·obtain⟨v,hv,rfl⟩:=List.mem_map.1 hp;exact Eh (h4 v hv)
theorem Fm {m:Model}(h:WQ m=true):∃K,∀N,K≤N→X7 N (skip (X0 m))=.ok m []:=by
 obtain⟨n,ck,vs,cs,fs,ps⟩:=m
 simp only[WQ,cD,cH]at h
 obtain⟨⟨⟨⟨⟨h1,h2⟩,h3⟩,h4⟩,h5⟩,h6⟩:=h
 have hP:∀w,w≠ZQ→w≠[]→cur (skip (ps.flatMap Ue))≠w:=fun w h1 h2=>by
  have:=HR (tx:=Ue) (w:=ZQ) (v:=w) (q:=[]) (fun e=>h1 e.symm) (l:=ps) (fun x hx r=>(Sp (h6 x hx) r).1) (fun e=>h2 e.symm)
  simpa using this
 have hF:∀w,w≠ZQ→w≠[]→w≠VL→cur (skip (VD fs++ps.flatMap Ue))≠w:=fun w h1 h2 h3=>by
  refine HR (tx:=O4) (w:=VL) (v:=w) (fun e=>h3 e.symm) (l:=fs) (fun x hx r=> ?_) (hP w h1 h2)
  simp only[Us,cH,cD]at h5
  have:=h5 x hx
  exact(Ss this.1.1 (cH.2 this.1.2) this.2 r).1
 obtain⟨K1,d1⟩:=TR (q:=VD fs++ps.flatMap Ue) (fun f=>by
  have e:=fun w h1 h2 h3=>hF w h1 h2 h3
  rw[Yp,fD (e _ (by decide) (by decide) (by decide)),fD (e _ (by decide) (by decide) (by decide)),fD (e _ (by decide) (by decide) (by decide)),fD (e _ (by decide) (by decide) (by decide)),fD (e _ (by decide) (by decide) (by decide))]) (IF ck vs cs) (El h2 h3 h4) ⟨[],[],[]⟩
 obtain⟨K2,d2⟩:=TP (q:=ps.flatMap Ue) (hP _ (by decide) (by decide)) fs h5 []
 obtain⟨K3,d3⟩:=HJ (one:=fun f u=>Xp f u) (tx:=Ue) (w:=ZQ) (q:=[]) (by decide) (l:=ps) (fun x hx r=>Sp (h6 x hx) r)
 rw[cN]at d3
 rw[Ek,PM]at d1
 refine⟨max (max K1 ((IF ck vs cs).length+1)) (max (max K2 (fs.length+1)) K3),fun N hN=> ?_⟩
 have e:X0 ⟨n,ck,vs,cs,fs,ps⟩=UI++(32::(n++(59::10::(XT ck++vs.flatMap UH++cs.flatMap Vb++(VD fs++ps.flatMap Ue))))):=by simp [X0]
 have hc:=XG (w:=UI) rfl (Qq rfl) e
 have d3':=d3 N (by omega)
 simp only at d3'
 rw[X7,Ql,fC hc.1,Q7,hc.2,QR,(ZG h1).skip_app,JG h1 (Qq rfl),Q7,Nz,Q7,d1 N (by omega) N (by omega),Q7,d2 N (by omega) N (by omega),Q7,cI,d3',Q7,Fe,fC rfl]
open Go.Ax.K
theorem jT {m:Model}(h:Vo m=0):WQ m=true∧Ub m=true:=by
 unfold Vo at h
 cases hw:WQ m with
 |false=>rw[hw]at h;simp [GP]at h
 |true=>
  rw[hw]at h
  cases hf:Ub m with
  |false=>rw[hf]at h;simp [P6]at h
  |true=>exact⟨rfl,rfl⟩
theorem Ft {m:Model}(h:Vo m=0)(hs:(X0 m).length≤20000):∃N,10*(X0 m).length+11≤N∧U5 N (X0 m)=(m,0,0):=by
 obtain⟨hw,hf⟩:=jT h
 obtain⟨K,hK⟩:=Fm hw
 refine⟨max K (10*(X0 m).length+11),by omega,?_⟩
 rw[U5,fD (by omega),hK _ (by omega)]
 simp only[hf,if_true]
section
variable (G:Nat→Option (List AV))
theorem zH (hG:Gl G){a:Model}(hf:Vo a=0)(A:Q3):Qu Tryz.prog G 9 [.str (X0 a)] A (XZ (if(X0 a).length≤20000 then(a,0,0)else(Wr,0,3))) A:=by
 by_cases hs:(X0 a).length≤20000
 ·obtain⟨N,hN,hp⟩:=Ft hf hs
  have:=n9 G hG (N:=N) (A:=A) (s:=X0 a) hN
  rwa [hp,←fC (c:=(X0 a).length≤20000) (t:=(a,(0:Int),(0:Int))) (e:=(Wr,0,3)) hs]at this
 ·have:=n9 G hG (N:=10*(X0 a).length+11) (A:=A) (s:=X0 a) (fG _)
  rwa [U5,fC (by omega),←fD (c:=(X0 a).length≤20000) (t:=(a,(0:Int),(0:Int))) (e:=(Wr,0,3)) hs]at this
end
end Go.Proofs.YtcbjbgaefighcaaGreatDoor
