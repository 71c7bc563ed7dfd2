/- Part 39 of the proof. -/
import Derived.Test.YtcbjbgaefighcaaGreatDoorT0
import Derived.Test.YtcbjbgaefighcaaGreatDoorT7
import Derived.Test.YtcbjbgaefighcaaGreatDoorT38
import Derived.KernelRfl
import Derived.Test.YtcbjbgaefighcaaGreatDoorProg
set_option linter.all false
namespace Go.Proofs.YtcbjbgaefighcaaGreatDoor
open Go Go.Ax Go.Proofs
def Xd (w:Bs):Bool:=(match w with|[]=>false|c::_=>Yu c)&&w.all Y3
theorem VH {w r:Bs}(h:Xd w=true)(hr:Ul r):Zw w r:=by
 cases w with
 |nil=>cases h
 |cons c t=>
  simp only[Xd,cD]at h
  exact Tq rfl h.1 h.2 hr
theorem JX {w r:Bs}(h:Xd w=true):skip (w++r)=w++r:=by
 cases w with
 |nil=>cases h
 |cons c t=>
  simp only[Xd,cD]at h
  exact(Eb h.1 (t:=t)).skip_app
theorem Vl {r:Bs}:∀d,skip (ZV d++r)=skip r
 |0=>rfl
 |d+1=>by
  show skip (9::(ZV d++r))=_
  rw[AL,Vl d]
theorem LD {c:UInt8}{r:Bs}(h:LG c=true)(hw:XY c=false)(h47:c≠47)(h2:c≠40)(h3:c≠63)(h4:([1,2,3,4,5].all fun m=>(JB m [c]).isNone)=true)(h5:Y3 c=false):K6 (c::r)∧WN 1 (c::r)∧cur (skip (c::r))≠[63]:=
 have e:=Wz (r:=r) h hw h47
 ⟨Kx (Qw h5) e (by simpa using h2),Ii e h4,by rw[e];simpa using h3⟩
theorem SE (r:Bs):K6 (59::r)∧WN 1 (59::r)∧cur (skip (59::r))≠[63]:=LD rfl rfl (by decide) (by decide) (by decide) rfl rfl
theorem SF (r:Bs):K6 (41::r)∧WN 1 (41::r)∧cur (skip (41::r))≠[63]:=LD rfl rfl (by decide) (by decide) (by decide) rfl rfl
theorem PK.at' {x:Exp}{t r:Bs}(h:PK x t)(hr:K6 r∧WN 1 r∧cur (skip r)≠[63]):Jn (fun f=>QZ f (t++r)) (.ok x (skip r)):=h.ex r hr.1 hr.2.1 hr.2.2
theorem VY {c:UInt8}{r:Bs}(h:LG c=true)(hw:XY c=false)(h47:c≠47):Qk [c] (skip (c::r))=.ok () (skip r):=KY (Ju hw h47) (ZI h)
theorem Hc {r:Bs}:Qk [61] (skip (32::61::32::r))=.ok () (skip r):=by
 rw[KY (w:=[61]) (r:=32::r) (by rw[Z6];exact Ju rfl (by decide)) (Wu rfl rfl (by decide)),Z6]
theorem N1 {n:Bs}{k:Int}{v:Exp}{r:Bs}(hn:Qf n=true)(hv:JA v=true):
 Jn (fun f=>(Z8 (n++(32::61::32::(Qz v++(59::r))))).bind fun n u1=>(Qk [61] u1).bind fun _ u2=>(QZ f u2).bind fun x u3=>(Qk [59] u3).bind fun _ u4=>.ok (Stmt.mk k n x [] []) u4) (.ok (.mk k n v [] []) (skip r)):=by
 have hp:=Ih v hv
 refine Jn.cg (Jn.bind (k:=fun _ x u3=>(Qk [59] u3).bind fun _ u4=>.ok (Stmt.mk k n x [] []) u4) (hp.at' (SE r)) (Jn.of fun f=>by rw[VY rfl rfl (by decide)];rfl)) fun f=> ?_
 rw[Y7 hn (Qw rfl),Q7,Hc,Q7,hp.sol.skip_app]
theorem txHd_5 {k:Int}{n:Bs}(h:Wm k n 0 0=true∨1≤k∧k≤5):k=1∨k=2∨k=3∨k=4∨k=5:=by
 rcases h with h|h
 ·simp only[Wm,cD,dZ]at h;omega
 ·omega
theorem S9 {s:Stmt}(hs:Uj s=true)(d:Nat):∃w t,Xd w=true∧Ul t∧w≠VJ∧w≠VI∧∀r,skip (Vk d s++r)=w++(t++r)∧Zw w (t++r):=by
 obtain⟨k,n,v,b,e⟩:=s
 simp only[Uj,Wm,cD,dZ]at hs
 obtain⟨⟨⟨⟨⟨⟨hk,hn⟩,_⟩,_⟩,_⟩,_⟩,_⟩:=hs
 have key:∀(w t:Bs),Xd w=true→(∃c t',t=c::t'∧Y3 c=false)→w≠VJ→w≠VI→Vk d (.mk k n v b e)=ZV d++(w++t)→∃w t,Xd w=true∧Ul t∧w≠VJ∧w≠VI∧∀r,skip (Vk d (.mk k n v b e)++r)=w++(t++r)∧Zw w (t++r):=fun w t hw ⟨c,t',ht,hc⟩ h1 h2 he=>by
  subst ht
  refine⟨w,c::t',hw,Qw hc,h1,h2,fun r=>⟨?_,VH hw (Qw hc)⟩⟩
  rw[he,cU,Vl,cU,JX hw]
 rcases(show k=1∨k=2∨k=3∨k=4∨k=5 by omega)with rfl|rfl|rfl|rfl|rfl
 ·exact key Vx (32::(n++([32,61,32]++(Qz v++[59,10])))) rfl ⟨32,_,rfl,rfl⟩ (by decide) (by decide) (by simp [Vk,Ym,Vx])
 ·have hn:Qf n=true:=by simpa using hn
  obtain⟨c,t,e1,h1,h2,h3⟩:=UP hn
  refine key n ([32,61,32]++(Qz v++[59,10])) (by rw[e1]at h2⊢;simp only[Xd,h1,h2,fX]) ⟨32,_,rfl,rfl⟩ (Kk hn (by decide)) (Kk hn (by decide)) (by simp [Vk,Ym])
 ·exact key JS (32::40::(Qz v++([41,32,123,10]++(Zo (d+1) b++((if e.isEmpty then[]else ZV d++([125,32,101,108,115,101,32,123,10]++Zo (d+1) e))++(ZV d++[125,10])))))) rfl ⟨32,_,rfl,rfl⟩ (by decide) (by decide) (by simp [Vk,Ym,JS])
 ·exact key YB (32::40::(Qz v++([41,32,123,10]++(Zo (d+1) b++((if e.isEmpty then[]else ZV d++([125,32,101,108,115,101,32,123,10]++Zo (d+1) e))++(ZV d++[125,10])))))) rfl ⟨32,_,rfl,rfl⟩ (by decide) (by decide) (by simp [Vk,Ym,YB])
 ·exact key VP (32::(Qz v++[59,10])) rfl ⟨32,_,rfl,rfl⟩ (by decide) (by decide) (by simp [Vk,Ym,VP])
theorem Ek {w:Bs}{c:UInt8}{t:Bs}(h:Xd w=true)(hc:Yu c=false):w≠c::t:=fun e=>by
 rw[e]at h
 simp only[Xd,hc,dE]at h
 cases h
theorem Lx {r:Bs}:skip (32::123::10::r)=[123]++(10::r):=by rw[Z6];exact Ju rfl (by decide)
theorem IQ {l:List Stmt}{d d':Nat}{r:Bs}(h:∃K,∀f,K≤f→∀g,l.length<g→Zy (fun u=>ZE f u) g [] (skip (Zo d l++(ZV d'++125::r)))=.ok l (skip r)):
 Jn (fun f=>Zz f (skip (32::123::10::(Zo d l++(ZV d'++125::r))))) (.ok l (skip r)):=by
 obtain⟨K,h⟩:=h
 refine Jn.step (p:=fun f=>Zy (fun u=>ZE f u) f [] (skip (Zo d l++(ZV d'++125::r)))) ⟨max K (l.length+1),fun f hf=>h f (by omega) f (by omega)⟩ fun f=> ?_
 simp only[Zz]
 rw[Lx,Ub (ZI rfl),Q7,Ua]
mutual
theorem EI:∀(s:Stmt) (_:Uj s=true) (d:Nat) (r:Bs) (_:cur (skip r)≠VJ),Jn (fun f=>ZE f (skip (Vk d s++r))) (.ok s (skip r))
 | .mk k n v b e,hs,d,r,hr=>by
  simp only[Uj,Wm,cD,dZ]at hs
  obtain⟨⟨⟨⟨⟨⟨hk,hn⟩,hb⟩,he⟩,hv⟩,hwb⟩,hwe⟩:=hs
  have hp:=Ih v hv
  have hbs:=HI b hwb (d+1)
  have hes:=HI e hwe (d+1)
  rcases(show k=1∨k=2∨k=3∨k=4∨k=5 by omega)with rfl|rfl|rfl|rfl|rfl
  ·obtain rfl:b=[]:=by simpa using hb
   obtain rfl:e=[]:=by simpa using he
   have hn:Qf n=true:=by simpa using hn
   have e1:skip (Vk d (.mk 1 n v [] [])++r)=Vx++(32::(n++(32::61::32::(Qz v++(59::10::r))))):=by
    simp only[Vk,cU,Vl]
    have:=JX (w:=Vx) (r:=(32::(n++(32::61::32::(Qz v++(59::10::r)))))) rfl
    simpa[Ym,Vx]using this
   rw[e1]
   have ht:Zw Vx (32::(n++(32::61::32::(Qz v++(59::10::r))))):=VH rfl (Qw rfl)
   have h:=N1 (k:=1) (n:=n) (v:=v) (r:=10::r) hn hv
   rw[Ua]at h
   refine Jn.step h fun f=> ?_
   simp only[ZE]
   rw[fD (by rw[ht.cur];decide),fD (by rw[ht.cur];decide),fD (by rw[ht.cur];decide),fC ht.cur,ht.adv,Z6,(J3 hn).skip_app]
  ·obtain rfl:b=[]:=by simpa using hb
   obtain rfl:e=[]:=by simpa using he
   have hn:Qf n=true:=by simpa using hn
   have e1:skip (Vk d (.mk 2 n v [] [])++r)=n++(32::61::32::(Qz v++(59::10::r))):=by
    simp only[Vk,cU,Vl]
    have:=(J3 hn).skip_app (r:=32::61::32::(Qz v++(59::10::r)))
    simpa[Ym]using this
   rw[e1]
   have ht:Zw n (32::61::32::(Qz v++(59::10::r))):=HD hn (Qw rfl)
   have h:=N1 (k:=2) (n:=n) (v:=v) (r:=10::r) hn hv
   rw[Ua]at h
   refine Jn.step h fun f=> ?_
   simp only[ZE]
   rw[fD (by rw[ht.cur];exact Kk hn (by decide)),fD (by rw[ht.cur];exact Kk hn (by decide)),fD (by rw[ht.cur];exact Kk hn (by decide)),fD (by rw[ht.cur];exact Kk hn (by decide))]
  ·obtain rfl:n=[]:=by simpa using hn
   obtain⟨X,hX,h2⟩:∃X,skip (Vk d (.mk 3 [] v b e)++r)=JS++(32::40::(Qz v++(41::32::123::10::(Zo (d+1) b++(ZV d++125::X)))))∧
    Jn (fun f=>if cur (skip X)=VJ then(Zz f (adv (skip X))).bind fun e u5=>.ok (Stmt.mk 3 [] v b e) u5 else .ok (Stmt.mk 3 [] v b []) (skip X)) (.ok (Stmt.mk 3 [] v b e) (skip r)):=by
    cases e with
    |nil=>
     refine⟨10::r,?_,Jn.of fun f=>by rw[Ua,fD hr]⟩
     simp only[Vk,cU,Vl]
     have:=JX (w:=JS) (r:=32::40::(Qz v++(41::32::123::10::(Zo (d+1) b++(ZV d++125::10::r))))) rfl
     simpa[Ym,JS]using this
    |cons a e=>
     refine⟨32::(VJ++(32::123::10::(Zo (d+1) (a::e)++(ZV d++125::10::r)))),?_,?_⟩
     ·simp only[Vk,cU,Vl]
      have:=JX (w:=JS) (r:=32::40::(Qz v++(41::32::123::10::(Zo (d+1) b++(ZV d++125::32::(VJ++(32::123::10::(Zo (d+1) (a::e)++(ZV d++125::10::r))))))))) rfl
      simpa[Ym,JS,VJ]using this
     ·have ht:Zw VJ (32::123::10::(Zo (d+1) (a::e)++(ZV d++125::10::r))):=VH rfl (Qw rfl)
      rw[Z6,JX rfl]
      have h:=IQ (hes d (10::r))
      rw[Ua]at h
      refine Jn.cg (Jn.bind (k:=fun _ e u5=>Res.ok (Stmt.mk 3 [] v b e) u5) h Jn.const) fun f=> ?_
      rw[fC ht.cur,ht.adv]
   rw[hX]
   have ht:Zw JS (32::40::(Qz v++(41::32::123::10::(Zo (d+1) b++(ZV d++125::X))))):=VH rfl (Qw rfl)
   refine Jn.step (Jn.bind (k:=fun f x u2=>(Qk [41] u2).bind fun _ u3=>(Zz f u3).bind fun b u4=>if cur u4=VJ then(Zz f (adv u4)).bind fun e u5=>.ok (.mk 3 [] x b e) u5 else .ok (.mk 3 [] x b []) u4) (hp.at' (SF _))
    (Jn.cg (Jn.bind (k:=fun f b u4=>if cur u4=VJ then(Zz f (adv u4)).bind fun e u5=>.ok (.mk 3 [] v b e) u5 else .ok (.mk 3 [] v b []) u4) (IQ (hbs d X)) h2) fun f=>by rw[VY rfl rfl (by decide),Q7])) fun f=> ?_
   simp only[ZE]
   rw[fC ht.cur,ht.adv,Z6,VY rfl rfl (by decide),Q7,hp.sol.skip_app]
  ·obtain rfl:n=[]:=by simpa using hn
   obtain rfl:e=[]:=by simpa using he
   have e1:skip (Vk d (.mk 4 [] v b [])++r)=YB++(32::40::(Qz v++(41::32::123::10::(Zo (d+1) b++(ZV d++125::10::r))))):=by
    simp only[Vk,cU,Vl]
    have:=JX (w:=YB) (r:=32::40::(Qz v++(41::32::123::10::(Zo (d+1) b++(ZV d++125::10::r))))) rfl
    simpa[Ym,YB]using this
   rw[e1]
   have ht:Zw YB (32::40::(Qz v++(41::32::123::10::(Zo (d+1) b++(ZV d++125::10::r))))):=VH rfl (Qw rfl)
   have h:=IQ (hbs d (10::r))
   rw[Ua]at h
   refine Jn.step (Jn.bind (k:=fun f x u2=>(Qk [41] u2).bind fun _ u3=>(Zz f u3).bind fun b u4=>.ok (.mk 4 [] x b []) u4) (hp.at' (SF _))
    (Jn.cg (Jn.bind (k:=fun _ b u4=>.ok (.mk 4 [] v b []) u4) h Jn.const) fun f=>by rw[VY rfl rfl (by decide),Q7])) fun f=> ?_
   simp only[ZE]
   rw[fD (by rw[ht.cur];decide),fC ht.cur,ht.adv,Z6,VY rfl rfl (by decide),Q7,hp.sol.skip_app]
  ·obtain rfl:n=[]:=by simpa using hn
   obtain rfl:b=[]:=by simpa using hb
   obtain rfl:e=[]:=by simpa using he
   have e1:skip (Vk d (.mk 5 [] v [] [])++r)=VP++(32::(Qz v++(59::10::r))):=by
    simp only[Vk,cU,Vl]
    have:=JX (w:=VP) (r:=32::(Qz v++(59::10::r))) rfl
    simpa[Ym,VP]using this
   rw[e1]
   have ht:Zw VP (32::(Qz v++(59::10::r))):=VH rfl (Qw rfl)
   refine Jn.step (Jn.bind (k:=fun _ x u1=>(Qk [59] u1).bind fun _ u2=>.ok (Stmt.mk 5 [] x [] []) u2) (hp.at' (SE _)) (Jn.of fun f=>by rw[VY rfl rfl (by decide),Q7,Ua])) fun f=> ?_
   simp only[ZE]
   rw[fD (by rw[ht.cur];decide),fD (by rw[ht.cur];decide),fC ht.cur,ht.adv,Z6,hp.sol.skip_app]
theorem HI:∀(l:List Stmt) (_:US l=true) (d d':Nat) (r:Bs),∃K,∀f,K≤f→∀g,l.length<g→Zy (fun u=>ZE f u) g [] (skip (Zo d l++(ZV d'++125::r)))=.ok l (skip r):=fun l hl d d' r=>by
 obtain⟨K,h⟩:=Mo l hl d d' r []
 exact⟨K,h⟩
theorem Mo:∀(l:List Stmt) (_:US l=true) (d d':Nat) (r:Bs) (acc:List Stmt),∃K,∀f,K≤f→∀g,l.length<g→Zy (fun u=>ZE f u) g acc (skip (Zo d l++(ZV d'++125::r)))=.ok (acc++l) (skip r)
 |[],_,d,d',r,acc=>⟨0,fun f _ g hg=>by
  obtain⟨g,rfl⟩:∃k,g=k+1:=⟨g - 1,by simp at hg;omega⟩
  have e:skip (Zo d []++(ZV d'++125::r))=[125]++r:=by
   simp only[Zo,cI,Vl];exact Ju rfl (by decide)
  rw[e,Zy,fC (ZI rfl).cur,(ZI rfl).adv,cN]⟩
 |s::l,hl,d,d',r,acc=>by
  simp only[US,cD]at hl
  obtain⟨hs,hl⟩:=hl
  have e:Zo d (s::l)++(ZV d'++125::r)=Vk d s++(Zo d l++(ZV d'++125::r)):=by simp [Zo]
  have hel:cur (skip (Zo d l++(ZV d'++125::r)))≠VJ:=by
   cases l with
   |nil=>
    have e:skip (Zo d []++(ZV d'++125::r))=[125]++r:=by
     simp only[Zo,cI,Vl];exact Ju rfl (by decide)
    rw[e,(ZI rfl).cur];decide
   |cons s2 l2=>
    simp only[US,cD]at hl
    obtain⟨w,t,_,_,h1,_,h2⟩:=S9 hl.1 d
    rw[Zo,cU,(h2 _).1,(h2 _).2.cur]
    exact h1
  obtain⟨K1,h1⟩:=EI s hs d (Zo d l++(ZV d'++125::r)) hel
  obtain⟨K2,h2⟩:=Mo l hl d d' r (acc++[s])
  obtain⟨w,t,hw,_,_,_,h3⟩:=S9 hs d
  refine⟨max K1 K2,fun f hf g hg=> ?_⟩
  obtain⟨g,rfl⟩:∃k,g=k+1:=⟨g - 1,by simp at hg;omega⟩
  have:=h1 f (by omega)
  simp only at this
  rw[e,Zy,fD (by rw[(h3 _).1,(h3 _).2.cur];exact Ek hw rfl),this,Q7,h2 f (by omega) g (by simpa using hg)]
  simp
end
theorem Se {x:Func}(hn:Qf x.name=true)(hps:x.params.all Qf=true)(hb:US x.body=true)(r:Bs):cur (skip (O8 x++r))=VI∧Jn (fun f=>V0 f (skip (O8 x++r))) (.ok x (skip r)):=by
 obtain⟨n,ps,b⟩:=x
 simp only at hn hps hb
 rw[cH]at hps
 have e:skip (O8 ⟨n,ps,b⟩++r)=VI++(32::(n++(40::(Lib.join ps [44,32]++(41::32::123::10::(Zo 1 b++(ZV 0++125::10::r))))))):=by
  have:=JX (w:=VI) (r:=32::(n++(40::(Lib.join ps [44,32]++(41::32::123::10::(Zo 1 b++(ZV 0++125::10::r))))))) rfl
  simpa[O8,ZV]using this
 rw[e]
 have ht:Zw VI (32::(n++(40::(Lib.join ps [44,32]++(41::32::123::10::(Zo 1 b++(ZV 0++125::10::r))))))):=VH rfl (Qw rfl)
 refine⟨ht.cur,?_⟩
 have hp:=N3 (one:=fun _ u=>Z8 u) (tx:=id) (F:=Ul) (fun q _=>Qw rfl) (r:=32::123::10::(Zo 1 b++(ZV 0++125::10::r))) (Qw rfl) (l:=ps) (fun a ha=>J3 (hps a ha)) (fun a ha r hr=>Jn.of fun f=>Y7 (hps a ha) hr)
 rw[List.map_id]at hp
 have hB:=IQ (HI b hb 1 0 (10::r))
 rw[Ua]at hB
 refine Jn.cg (Jn.bind (k:=fun f ps u4=>(Zz f u4).bind fun b u5=>Res.ok (Func.mk n ps b) u5) hp (Jn.bind (k:=fun _ b u5=>Res.ok (Func.mk n ps b) u5) hB Jn.const)) fun f=> ?_
 rw[V0,Ub ht,Q7,Z6,(J3 hn).skip_app,Y7 hn (Qw rfl),Q7,VY rfl rfl (by decide),Q7]
def UX (ws:List Bs)(R:Bs):Prop:=Ul R∧cur (skip R)∈ws
theorem UX.mono {ws vs:List Bs}{R:Bs}(h:UX ws R)(hs:∀w∈ws,w∈vs):UX vs R:=⟨h.1,hs _ h.2⟩
theorem UX.ne {ws:List Bs}{R w:Bs}(h:UX ws R)(hw:w∉ws):cur (skip R)≠w:=fun e=>hw (e▸h.2)
def zB (ws:List Bs):Bool:=ws.all fun w=>w !=[40]&&w !=[63]&&[1,2,3,4,5].all fun m=>(JB m w).isNone
theorem UX.ex {ws:List Bs}{R:Bs}(h:UX ws R)(hw:zB ws=true):K6 R∧WN 1 R∧cur (skip R)≠[63]:=by
 have:=cH.1 hw _ h.2
 simp only[cD,bne_iff_ne,ne_eq]at this
 exact⟨⟨h.1,this.1.1⟩,fun m _=>TJ this.2 m,this.1.2⟩
theorem H7 {r:Bs}:UX [[59]] (59::r):=⟨Qw rfl,by rw[Wz rfl rfl (by decide)];simp⟩
theorem Xf {ws:List Bs}{R w t:Bs}{is:Bool}(hw:Xd w=true)(h:UX ws R):UX (w::ws) (Z9 is w t++R):=by
 cases is with
 |false=>exact h.mono fun _ h=>dI _ h
 |true=>
  have e:Z9 true w t++R=32::(w++(32::(t++R))):=by simp [Z9]
  rw[e]
  refine⟨Qw rfl,?_⟩
  rw[Z6,JX hw,(VH hw (Qw rfl)).cur]
  simp
theorem Wa {α:Type}{p:Nat→Bs→Res α}{d a:α}{is:Bool}{w t R:Bs}{ws:List Bs}(hw:Xd w=true)(hR:UX ws R)(hn:w∉ws)(h1:is=true→Yl t∧Jn (fun f=>p f (t++R)) (.ok a (skip R)))(h0:is=false→a=d):
 Jn (fun f=>Jd w d (p f) (skip (Z9 is w t++R))) (.ok a (skip R)):=by
 cases is with
 |false=>
  refine Jn.of fun f=> ?_
  rw[h0 rfl]
  show Jd w d (p f) (skip R)=_
  rw[Jd,fD (hR.ne hn)]
 |true=>
  obtain⟨hs,h⟩:=h1 rfl
  have e:Z9 true w t++R=32::(w++(32::(t++R))):=by simp [Z9]
  have ht:Zw w (32::(t++R)):=VH hw (Qw rfl)
  refine h.cg fun f=> ?_
  rw[e,Z6,JX hw,Jd,fC ht.cur,ht.adv,Z6,hs.skip_app]
theorem M6 {t:Test}(h:Vj t=true):Qf t.clock=true∧ZQ t.c=true:=by simpa[Vj]using h
theorem EH {t:Test}(h:Vj t=true){r:Bs}(hr:Ul r):W6 (XL t++r)=.ok [t] (skip r):=by
 obtain⟨n,lo,st,c⟩:=t
 obtain⟨h1,h2⟩:=M6 h
 simp only at h1 h2
 have hs:=(Ux c).skip_app (r:=r)
 have key:∀(w:Bs),skip (w++(32::(Lib.itoa c++r)))=w++(32::(Lib.itoa c++r))→Zw w (32::(Lib.itoa c++r))→XL ⟨n,lo,st,c⟩++r=n++(32::(w++(32::(Lib.itoa c++r))))→
  W6 (XL ⟨n,lo,st,c⟩++r)=(if w=[60]then Res.ok [⟨n,false,true,c⟩] (skip r)else if w=[60,61]then .ok [⟨n,false,false,c⟩] (skip r)else if w=[62]then .ok [⟨n,true,true,c⟩] (skip r)else if w=[62,61]then .ok [⟨n,true,false,c⟩] (skip r)else if w=[61,61]then .ok [⟨n,false,false,c⟩,⟨n,true,false,c⟩] (skip r)else .bad (w++(32::(Lib.itoa c++r)))):=fun w hsk ht e=>by
  rw[e,W6,Y7 h1 (Qw rfl),Q7,Z6,hsk,ht.cur,ht.adv,Z6,hs,WO hr h2]
  rfl
 cases lo <;> cases st
 ·rw[key [60,61] (Ju rfl (by decide)) (KB rfl rfl (by decide)) (by simp [XL])];rfl
 ·rw[key [60] (Ju rfl (by decide)) (Wu rfl rfl (by decide)) (by simp [XL])];rfl
 ·rw[key [62,61] (Ju rfl (by decide)) (KB rfl rfl (by decide)) (by simp [XL])];rfl
 ·rw[key [62] (Ju rfl (by decide)) (Wu rfl rfl (by decide)) (by simp [XL])];rfl
theorem Tw {t:Test}(h:Vj t=true):Yl (XL t):=by
 unfold XL
 simp only[cU]
 exact(J3 (M6 h).1).app
theorem Ez (q:Bs)(hq:Yl q):cur (skip ([32,38,38,32]++q))=[38,38]∧adv (skip ([32,38,38,32]++q))=q:=by
 have e:skip ([32,38,38,32]++q)=[38,38]++(32::q):=by
  show skip (32::38::38::32::q)=_
  rw[Z6];exact Ju rfl (by decide)
 have ht:Zw [38,38] (32::q):=KB rfl rfl (by decide)
 rw[e]
 exact⟨ht.cur,by rw[ht.adv,Z6,hq.skip]⟩
theorem TB {l:List Test}(h:l.all Vj=true)(hne:l≠[]){r:Bs}(hr:Ul r)(hend:cur (skip r)≠[38,38]):Yl (YQ l)∧Jn (fun f=>X0 f (YQ l++r)) (.ok l (skip r)):=by
 rw[cH]at h
 have hm:l.map XL=(l.map fun t=>[t]).map fun ts=>match ts with|[]=>[]|t::_=>XL t:=by simp
 have hfl:∀l:List Test,(l.map fun t=>[t]).flatten=l:=fun l=>by induction l <;> simp_all
 refine⟨?_,?_⟩
 ·cases l with
  |nil=>exact absurd rfl hne
  |cons a l=>rw[YQ,cJ,Lib.join_cons];exact(Tw (h a (by simp))).app
 ·have:=Io (one:=fun _ u=>W6 u) (tx:=fun ts:List Test=>match ts with|[]=>[]|t::_=>XL t) (sep:=[38,38]) (sepT:=[32,38,38,32]) (F:=Ul) Ez (fun q _=>Qw rfl) hr hend (l:=l.map fun t=>[t]) (by simpa using hne)
   (fun a ha=>by obtain⟨t,ht,rfl⟩:=List.mem_map.1 ha;exact Tw (h t ht)) (fun a ha r hr=>by obtain⟨t,ht,rfl⟩:=List.mem_map.1 ha;exact Jn.of fun f=>EH (h t ht) hr)
  rw[←hm]at this
  refine Jn.cg (Jn.bind (k:=fun _ l u1=>Res.ok l.flatten u1) this Jn.const) (R:=.ok (l.map fun t=>[t]).flatten (skip r)) (fun f=>rfl) |>fun h=>by rwa [hfl]at h
theorem NC {a:Assign}(hn:Qf a.name=true)(hv:JA a.val=true){r:Bs}(hr:K6 r∧WN 1 r∧cur (skip r)≠[63]):Jn (fun f=>VR f (U5 a++r)) (.ok a (skip r)):=by
 obtain⟨n,v⟩:=a
 have hp:=Ih v hv
 have e:U5 ⟨n,v⟩++r=n++(32::61::32::(Qz v++r)):=by simp [U5]
 refine Jn.cg (Jn.bind (k:=fun _ x u3=>Res.ok (Assign.mk n x) u3) (hp.at' hr) Jn.const) fun f=> ?_
 rw[e,VR,Y7 hn (Qw rfl),Q7,Hc,Q7,hp.sol.skip_app]
theorem F2 {c:Clear}(hn:Qf c.clock=true)(hv:ZQ c.tv=true){r:Bs}(hr:Ul r):UF (Uk c++r)=.ok c (skip r):=by
 obtain⟨n,v⟩:=c
 have e:Uk ⟨n,v⟩++r=n++(32::61::32::(Lib.itoa v++r)):=by simp [Uk]
 rw[e,UF,Y7 hn (Qw rfl),Q7,Hc,Q7,(Ux v).skip_app,WO hr hv]
 rfl
theorem Lf {r:Bs}:Qk [59] (skip (59::10::r))=.ok () (skip r):=by rw[VY rfl rfl (by decide),Ua]
theorem Ld {α:Type}{l:List α}(h:(!l.isEmpty)=true):l≠[]:=by cases l <;> simp_all
theorem IU {α:Type}{l:List α}(h:(!l.isEmpty)=false):l=[]:=by cases l <;> simp_all
theorem AM {l:Loc}(h:VG l=true)(r:Bs):cur (skip (XW l++r))=YR∧Jn (fun f=>Ks f (adv (skip (XW l++r)))) (.ok l (skip r)):=by
 obtain⟨n,k,i,rt⟩:=l
 simp only[VG,cD,dZ]at h
 obtain⟨⟨⟨h1,h2⟩,h3⟩,h4⟩:=h
 generalize hR3:Z9 (rt !=0) YX (Lib.itoa rt)++(59::10::r)=R3
 generalize hR2:Z9 (!i.isEmpty) Uo (YQ i)++R3=R2
 have t3:UX [YX,[59]] R3:=hR3▸Xf rfl H7
 have t2:UX [Uo,YX,[59]] R2:=hR2▸Xf rfl t3
 have e:skip (XW ⟨n,k,i,rt⟩++r)=YR++(32::(n++(Xo k++R2))):=by
  have:=JX (w:=YR) (r:=32::(n++(Xo k++R2))) rfl
  rw[←hR2,←hR3]at this⊢
  simpa[XW,YR]using this
 have ht:Zw YR (32::(n++(Xo k++R2))):=VH rfl (Qw rfl)
 rw[e]
 refine⟨ht.cur,?_⟩
 have hk:Ul (Xo k++R2)∧Yh (skip (Xo k++R2))=.ok k (skip R2):=by
  rcases(show k=0∨k=1∨k=2 by omega)with rfl|rfl|rfl
  ·refine⟨t2.1,?_⟩
   show Yh (skip R2)=_
   rw[Yh,fD (t2.ne (by decide)),fD (t2.ne (by decide))]
  ·refine⟨Qw rfl,?_⟩
   show Yh (skip (32::(Zl++R2)))=_
   have:=VH (w:=Zl) rfl t2.1
   rw[Z6,JX rfl,Yh,fC this.cur,this.adv]
  ·refine⟨Qw rfl,?_⟩
   show Yh (skip (32::(YO++R2)))=_
   have:=VH (w:=YO) rfl t2.1
   rw[Z6,JX rfl,Yh,fD (by rw[this.cur];decide),fC this.cur,this.adv]
 have o2:Jn (fun f=>Jd Uo [] (X0 f) (skip R2)) (.ok i (skip R3)):=by
  rw[←hR2]
  exact Wa rfl t3 (by decide) (fun h=>TB h3 (Ld h) t3.1 (t3.ne (by decide))) IU
 have o3:Jn (fun f=>Jd YX 0 JE (skip R3)) (.ok rt (skip (59::10::r))):=by
  rw[←hR3]
  exact Wa (p:=fun _ u=>JE u) rfl H7 (by decide) (fun _=>⟨Ux rt,Jn.of fun f=>WO (Qw rfl) h4⟩) (fun h=>by simpa using h)
 refine Jn.cg (Jn.bind (k:=fun _ i u3=>(Jd YX 0 JE u3).bind fun r u4=>(Qk [59] u4).bind fun _ u5=>.ok (Loc.mk n k i r) u5) o2
  (Jn.bind (k:=fun _ r u4=>(Qk [59] u4).bind fun _ u5=>.ok (Loc.mk n k i r) u5) o3 (Jn.of fun f=>by rw[Lf];rfl))) fun f=> ?_
 rw[ht.adv,Z6,(J3 h1).skip_app,Ks,Y7 h1 hk.1,Q7,hk.2,Q7]
theorem G9 {x:Exp}(h:isNone x=true):x=JJ:=by
 obtain⟨k,n,i,xs⟩:=x
 simp only[isNone,cD,beq_iff_eq,List.isEmpty_iff]at h
 obtain⟨⟨⟨rfl,rfl⟩,rfl⟩,rfl⟩:=h
 rfl
theorem Sf {x:Edge}(h:Ys x=true)(r:Bs):cur (skip (U6 x++r))=Yb∧Jn (fun f=>XB f (adv (skip (U6 x++r)))) (.ok x (skip r)):=by
 obtain⟨a,b,ts,c,ch,sn,ss,cs,co,k⟩:=x
 simp only[Ys,cD]at h
 obtain⟨⟨⟨⟨⟨⟨⟨⟨⟨h1,h2⟩,h3⟩,h4⟩,h5⟩,h6⟩,h7⟩,h8⟩,h9⟩,h10⟩:=h
 rw[cH]at h7 h8
 generalize hR8:Z9 (k !=0) JC (Lib.itoa k)++(59::10::r)=R8
 generalize hR7:Z9 (co !=0) JH (Lib.itoa co)++R8=R7
 generalize hR6:Z9 (!cs.isEmpty) Jg (Lib.join (cs.map Uk) [44,32])++R7=R6
 generalize hR5:Z9 (!ss.isEmpty) U2 (Lib.join (ss.map U5) [44,32])++R6=R5
 generalize hR4:Z9 (!ch.isEmpty) Yj (ch++(if sn then[33]else[63]))++R5=R4
 generalize hR3:Z9 (!(isNone c)) JS (Qz c)++R4=R3
 generalize hR2:Z9 (!ts.isEmpty) YL (YQ ts)++R3=R2
 have t8:UX [JC,[59]] R8:=hR8▸Xf rfl H7
 have t7:UX [JH,JC,[59]] R7:=hR7▸Xf rfl t8
 have t6:UX [Jg,JH,JC,[59]] R6:=hR6▸Xf rfl t7
 have t5:UX [U2,Jg,JH,JC,[59]] R5:=hR5▸Xf rfl t6
 have t4:UX [Yj,U2,Jg,JH,JC,[59]] R4:=hR4▸Xf rfl t5
 have t3:UX [JS,Yj,U2,Jg,JH,JC,[59]] R3:=hR3▸Xf rfl t4
 have t2:UX [YL,JS,Yj,U2,Jg,JH,JC,[59]] R2:=hR2▸Xf rfl t3
 have e:skip (U6 ⟨a,b,ts,c,ch,sn,ss,cs,co,k⟩++r)=Yb++(32::(a++(32::45::62::32::(b++R2)))):=by
  have:=JX (w:=Yb) (r:=32::(a++(32::45::62::32::(b++R2)))) rfl
  rw[←hR2,←hR3,←hR4,←hR5,←hR6,←hR7,←hR8]at this⊢
  simpa[U6,Yb]using this
 have ht:Zw Yb (32::(a++(32::45::62::32::(b++R2)))):=VH rfl (Qw rfl)
 rw[e]
 refine⟨ht.cur,?_⟩
 have o2:Jn (fun f=>Jd YL [] (X0 f) (skip R2)) (.ok ts (skip R3)):=by
  rw[←hR2]
  exact Wa rfl t3 (by decide) (fun h=>TB h3 (Ld h) t3.1 (t3.ne (by decide))) IU
 have o3:Jn (fun f=>Jd JS JJ (QZ f) (skip R3)) (.ok c (skip R4)):=by
  rw[←hR3]
  refine Wa (p:=fun f u=>QZ f u) rfl t4 (by decide) (fun h=> ?_) (fun h=>G9 (by simpa using h))
  have hw:JA c=true:=by simpa[(show isNone c=false by simpa using h)]using h4
  exact⟨(Ih c hw).sol,(Ih c hw).at' (t4.ex rfl)⟩
 have o4:Jn (fun f=>Jd Yj ([],false) WC (skip R4)) (.ok (ch,sn) (skip R5)):=by
  rw[←hR4]
  refine Wa (p:=fun _ u=>WC u) rfl t5 (by decide) (fun h=> ?_) (fun h=> ?_)
  ·have hn:Qf ch=true:=by simpa[(show ch.isEmpty=false by simpa using h)]using h6
   refine⟨(J3 hn).app,Jn.of fun f=> ?_⟩
   cases sn with
   |true=>
    have hb:Zw [33] R5:=by
     cases hr:R5 with
     |nil=>rfl
     |cons d R=>
      refine Wu rfl rfl ?_
      rintro hm
      have:d=61:=by simpa[Yp]using hm
      subst this
      have h1:=t5.2
      have hsk:skip (61::R)=61::R:=Ju rfl (by decide)
      rw[hr,hsk]at h1
      revert h1
      unfold cur
      cases hn:Z3 (61::R)with
      |zero=>simp [U2,Jg,JH,JC]
      |succ m=>rw[List.take_succ_cons];simp [U2,Jg,JH,JC]
    have e:ch++(if true=true then[33]else[63])++R5=ch++([33]++R5):=by simp
    rw[e,WC,Y7 hn (r:=[33]++R5) (Qw rfl),Q7,show skip ([33]++R5)=[33]++R5 from Ju rfl (by decide),fC hb.cur,hb.adv]
   |false=>
    have hb:Zw [63] R5:=ZI rfl
    have e:ch++(if false=true then[33]else[63])++R5=ch++([63]++R5):=by simp
    rw[e,WC,Y7 hn (r:=[63]++R5) (Qw rfl),Q7,show skip ([63]++R5)=[63]++R5 from Ju rfl (by decide),fD (by rw[hb.cur];decide),Ub hb]
    rfl
  ·have:ch=[]:=by simpa using h
   subst this
   cases sn with
   |true=>simp at h5
   |false=>rfl
 have o5:Jn (fun f=>Jd U2 [] (ZO [44] (VR f) f) (skip R5)) (.ok ss (skip R6)):=by
  rw[←hR5]
  refine Wa rfl t6 (by decide) (fun h=>⟨?_,?_⟩) IU
  ·cases ss with
   |nil=>cases h
   |cons x ss=>
    have:=h7 x (by simp)
    simp only[cD]at this
    rw[cJ,Lib.join_cons,U5]
    simp only[cU]
    exact(J3 this.1).app
  ·exact Io (one:=fun f u=>VR f u) (tx:=U5) (F:=fun r=>K6 r∧WN 1 r∧cur (skip r)≠[63]) KT MB (t6.ex rfl) (t6.ne (by decide)) (Ld h)
    (fun x hx=>by have:=h7 x hx;simp only[cD]at this;rw[U5];simp only[cU];exact(J3 this.1).app)
    (fun x hx r hr=>by have:=h7 x hx;simp only[cD]at this;exact NC this.1 this.2 hr)
 have o6:Jn (fun f=>Jd Jg [] (ZO [44] UF f) (skip R6)) (.ok cs (skip R7)):=by
  rw[←hR6]
  refine Wa rfl t7 (by decide) (fun h=>⟨?_,?_⟩) IU
  ·cases cs with
   |nil=>cases h
   |cons x cs=>
    have:=h8 x (by simp)
    simp only[cD]at this
    rw[cJ,Lib.join_cons,Uk]
    simp only[cU]
    exact(J3 this.1).app
  ·exact Io (one:=fun _ u=>UF u) (tx:=Uk) (F:=Ul) KT (fun q _=>Qw rfl) t7.1 (t7.ne (by decide)) (Ld h)
    (fun x hx=>by have:=h8 x hx;simp only[cD]at this;rw[Uk];simp only[cU];exact(J3 this.1).app)
    (fun x hx r hr=>by have:=h8 x hx;simp only[cD]at this;exact Jn.of fun f=>F2 this.1 this.2 hr)
 have o7:Jn (fun f=>Jd JH 0 JE (skip R7)) (.ok co (skip R8)):=by
  rw[←hR7]
  exact Wa (p:=fun _ u=>JE u) rfl t8 (by decide) (fun _=>⟨Ux co,Jn.of fun f=>WO t8.1 h9⟩) (fun h=>by simpa using h)
 have o8:Jn (fun f=>Jd JC 0 JE (skip R8)) (.ok k (skip (59::10::r))):=by
  rw[←hR8]
  exact Wa (p:=fun _ u=>JE u) rfl H7 (by decide) (fun _=>⟨Ux k,Jn.of fun f=>WO (Qw rfl) h10⟩) (fun h=>by simpa using h)
 refine Jn.cg (Jn.bind (k:=fun f ts u4=>(Jd JS JJ (QZ f) u4).bind fun c u5=>
  (Jd Yj ([],false) WC u5).bind fun ch u6=>(Jd U2 [] (ZO [44] (VR f) f) u6).bind fun ss u7=>
  (Jd Jg [] (ZO [44] UF f) u7).bind fun cs u8=>(Jd JH 0 JE u8).bind fun co u9=>
  (Jd JC 0 JE u9).bind fun k u10=>(Qk [59] u10).bind fun _ u11=>.ok (Edge.mk a b ts c ch.1 ch.2 ss cs co k) u11) o2 (Jn.bind o3 (Jn.bind o4 (Jn.bind o5 (Jn.bind o6 (Jn.bind o7 (Jn.bind o8 (Jn.of fun f=>by rw[Lf];rfl)))))))) fun f=> ?_
 have ha:Zw [45,62] (32::(b++R2)):=KB rfl rfl (by decide)
 rw[ht.adv,Z6,(J3 h1).skip_app,XB,Y7 h1 (Qw rfl),Q7,Z6,show skip (45::62::32::(b++R2))=[45,62]++(32::(b++R2))from Ju rfl (by decide),Ub ha,Q7,Z6,(J3 h2).skip_app,Y7 h2 t2.1,Q7]
theorem Sd {α:Type}{one:Nat→Bs→Res α}{tx:α→Bs}{w q:Bs}(hq:cur (skip q)≠w):∀(l:List α),(∀a∈l,∀r,cur (skip (tx a++r))=w∧Jn (fun f=>one f (adv (skip (tx a++r)))) (.ok a (skip r)))→∀acc,∃K,∀f,K≤f→∀g,l.length<g→JI w (one f) g acc (skip (l.flatMap tx++q))=.ok (acc++l) (skip q)
 |[],_,acc=>⟨0,fun f _ g hg=>by
  obtain⟨g,rfl⟩:∃k,g=k+1:=⟨g - 1,by simp at hg;omega⟩
  show JI w (one f) (g+1) acc (skip q)=_
  rw[JI,fD hq,cN]⟩
 |a::l,h,acc=>by
  obtain⟨hc,K1,h1⟩:=h a (by simp) (l.flatMap tx++q)
  obtain⟨K2,h2⟩:=Sd hq l (fun a ha=>h a (by simp [ha])) (acc++[a])
  refine⟨max K1 K2,fun f hf g hg=> ?_⟩
  obtain⟨g,rfl⟩:∃k,g=k+1:=⟨g - 1,by simp at hg;omega⟩
  have:=h1 f (by omega)
  simp only at this
  rw[dD,cU,JI,fC hc,this,Q7,h2 f (by omega) g (by simpa using hg)]
  simp
theorem HJ {α:Type}{one:Nat→Bs→Res α}{tx:α→Bs}{w q:Bs}(hq:cur (skip q)≠w){l:List α}(h:∀a∈l,∀r,cur (skip (tx a++r))=w∧Jn (fun f=>one f (adv (skip (tx a++r)))) (.ok a (skip r))):Jn (fun f=>JI w (one f) f [] (skip (l.flatMap tx++q))) (.ok l (skip q)):=by
 obtain⟨K,hK⟩:=Sd hq l h []
 exact⟨max K (l.length+1),fun f hf=>hK f (by omega) f (by omega)⟩
theorem HT {α:Type}{tx:α→Bs}{w v q:Bs}(hwv:w≠v){l:List α}(h:∀a∈l,∀r,cur (skip (tx a++r))=w)(hq:cur (skip q)≠v):cur (skip (l.flatMap tx++q))≠v:=by
 cases l with
 |nil=>exact hq
 |cons a l=>rw[dD,cU,h a (by simp)];exact hwv
theorem Sc {p:Proc}(h:YA p=true)(r:Bs):cur (skip (U4 p++r))=Jq∧Jn (fun f=>W7 f (adv (skip (U4 p++r)))) (.ok p (skip r)):=by
 obtain⟨n,i,ls,es⟩:=p
 simp only[YA,cD,cH]at h
 obtain⟨⟨⟨h1,h2⟩,h3⟩,h4⟩:=h
 have e:skip (U4 ⟨n,i,ls,es⟩++r)=Jq++(32::(n++(32::(XA++(32::(i++(32::123::10::(ls.flatMap XW++(es.flatMap U6++(125::10::r)))))))))):=by
  have:=JX (w:=Jq) (r:=32::(n++(32::(XA++(32::(i++(32::123::10::(ls.flatMap XW++(es.flatMap U6++(125::10::r)))))))))) rfl
  simpa[U4,Jq,XA]using this
 have ht:Zw Jq (32::(n++(32::(XA++(32::(i++(32::123::10::(ls.flatMap XW++(es.flatMap U6++(125::10::r)))))))))):=VH rfl (Qw rfl)
 have hi:Zw XA (32::(i++(32::123::10::(ls.flatMap XW++(es.flatMap U6++(125::10::r)))))):=VH rfl (Qw rfl)
 rw[e]
 refine⟨ht.cur,?_⟩
 have hb:skip (125::10::r)=[125]++(10::r):=Ju rfl (by decide)
 have c125:cur (skip (125::10::r))=[125]:=by rw[hb];exact(ZI rfl).cur
 have o1:=HJ (one:=fun f u=>Ks f u) (tx:=XW) (w:=YR) (q:=es.flatMap U6++(125::10::r)) (HT (w:=Yb) (by decide) (fun x hx r=>(Sf (h4 x hx) r).1) (by rw[c125];decide)) (l:=ls) (fun x hx r=>AM (h3 x hx) r)
 have o2:=HJ (one:=fun f u=>XB f u) (tx:=U6) (w:=Yb) (q:=125::10::r) (by rw[c125];decide) (l:=es) (fun x hx r=>Sf (h4 x hx) r)
 refine Jn.cg (Jn.bind (k:=fun f ls u5=>(JI Yb (XB f) f [] u5).bind fun es u6=>(Qk [125] u6).bind fun _ u7=>.ok (Proc.mk n i ls es) u7) o1 (Jn.bind (k:=fun _ es u6=>(Qk [125] u6).bind fun _ u7=>.ok (Proc.mk n i ls es) u7) o2 (Jn.of fun f=>by rw[VY rfl rfl (by decide),Ua];rfl))) fun f=> ?_
 rw[ht.adv,Z6,(J3 h1).skip_app,W7,Y7 h1 (Qw rfl),Q7,Z6,JX (w:=XA) rfl,Ub hi,Q7,Z6,(J3 h2).skip_app,Y7 h2 (Qw rfl),Q7,Lx,Ub (ZI rfl),Q7,Ua]
def PP (t:Bs)(x:Decls):Prop:=∀r,∃K,∀f,K≤f→Yz f (skip (t++r))=some (.ok x (skip (59::10::r)))
theorem TD {q:Bs}(hq:∀f,Yz f (skip q)=none):∀(L:List (Bs×Decls)),(∀p∈L,PP p.1 p.2)→∀d,∃K,∀f,K≤f→∀g,L.length<g→J9 f g d (skip (L.flatMap (·.1)++q))=.ok (L.foldl (fun(d:Decls) p=>d.add p.2) d) (skip q)
 |[],_,d=>⟨0,fun f _ g hg=>by
  obtain⟨g,rfl⟩:∃k,g=k+1:=⟨g - 1,by simp at hg;omega⟩
  show J9 f (g+1) d (skip q)=_
  rw[J9,hq];rfl⟩
 |p::L,h,d=>by
  obtain⟨K1,h1⟩:=h p (by simp) (L.flatMap (·.1)++q)
  obtain⟨K2,h2⟩:=TD hq L (fun a ha=>h a (by simp [ha])) (d.add p.2)
  refine⟨max K1 K2,fun f hf g hg=> ?_⟩
  obtain⟨g,rfl⟩:∃k,g=k+1:=⟨g - 1,by simp at hg;omega⟩
  rw[dD,cU,J9,h1 f (by omega)]
  simp only[Q7]
  rw[Lf,Q7,h2 f (by omega) g (by simpa using hg)]
  rfl
theorem KP {w r u:Bs}(hw:Xd w=true)(hr:Ul r)(h:u=w++r):cur (skip u)=w∧adv (skip u)=skip r:=by
 have ht:=VH hw hr
 rw[h,JX hw]
 exact⟨ht.cur,ht.adv⟩
theorem TV {l:List Bs}(hl:∀n∈l,Qf n=true)(hne:l≠[])(r:Bs):Yl (Lib.join l [44,32])∧Jn (fun f=>ZO [44] Z8 f (Lib.join l [44,32]++(59::10::r))) (.ok l (skip (59::10::r))):=by
 have c59:cur (skip (59::10::r))=[59]:=Wz rfl rfl (by decide)
 refine⟨?_,?_⟩
 ·cases l with
  |nil=>exact absurd rfl hne
  |cons a l=>rw[Lib.join_cons];exact(J3 (hl a (by simp))).app
 ·have:=Io (one:=fun _ u=>Z8 u) (tx:=id) (F:=Ul) KT (fun q _=>Qw rfl) (r:=59::10::r) (Qw rfl) (by rw[c59];decide) hne (fun a ha=>J3 (hl a ha)) (fun a ha r hr=>Jn.of fun f=>Y7 (hl a ha) hr)
  rwa [List.map_id]at this
theorem Pu {l:List Bs}(hl:∀n∈l,Qf n=true)(hne:l≠[]):PP (XH l) ⟨l,[],[]⟩:=fun r=>by
 obtain⟨hs,K,h⟩:=TV hl hne r
 refine⟨K,fun f hf=> ?_⟩
 have e:XH l++r=Kw++(32::(Lib.join l [44,32]++(59::10::r))):=by
  cases l with
  |nil=>exact absurd rfl hne
  |cons a l=>simp [XH]
 have hc:=KP (w:=Kw) rfl (Qw rfl) e
 have:=h f hf
 simp only at this
 rw[Yz,fC hc.1,hc.2,Z6,hs.skip_app,this]
 rfl
theorem DN {v:Var}(h:XV v=true):PP (UC v) ⟨[],[v],[]⟩:=fun r=>⟨0,fun f _=>by
 obtain⟨n,a,b,c⟩:=v
 simp only[XV,cD]at h
 obtain⟨h1,h2,h3,h4⟩:=h
 have e:UC ⟨n,a,b,c⟩++r=Vx++(32::(n++(32::(M1++(32::(Lib.itoa a++([46,46]++(Lib.itoa b++(32::61::32::(Lib.itoa c++(59::10::r))))))))))):=by simp [UC]
 have hc:=KP (w:=Vx) rfl (Qw rfl) e
 have hi:Zw M1 (32::(Lib.itoa a++([46,46]++(Lib.itoa b++(32::61::32::(Lib.itoa c++(59::10::r))))))):=VH rfl (Qw rfl)
 have hd:Zw [46,46] (Lib.itoa b++(32::61::32::(Lib.itoa c++(59::10::r)))):=KB rfl rfl (by decide)
 rw[Yz,fD (by rw[hc.1];decide),fC hc.1,hc.2,Z6,(J3 h1).skip_app,IC,Y7 h1 (Qw rfl),Q7,Z6,JX (w:=M1) rfl,Ub hi,Q7,Z6,(Ux a).skip_app,WO (r:=[46,46]++(Lib.itoa b++(32::61::32::(Lib.itoa c++(59::10::r))))) (Qw rfl) h2,Q7,
  show skip ([46,46]++(Lib.itoa b++(32::61::32::(Lib.itoa c++(59::10::r)))))=[46,46]++(Lib.itoa b++(32::61::32::(Lib.itoa c++(59::10::r))))from Ju rfl (by decide),
  Ub hd,Q7,(Ux b).skip_app,WO (Qw rfl) h3,Q7,Hc,Q7,(Ux c).skip_app,WO (Qw rfl) h4]
 rfl⟩
theorem FW {c:Chan}(h:Oe c=true):PP (V7 c) ⟨[],[],[c]⟩:=fun r=>by
 obtain⟨n,b,g⟩:=c
 have hn:Qf n=true:=h
 obtain⟨_,K,hl⟩:=TV (l:=[n]) (by simpa using hn) (by simp) r
 rw[Lib.join_one]at hl
 have hch:∀f,K≤f→∀b g,ZF f b g (n++(59::10::r))=.ok [⟨n,b,g⟩] (skip (59::10::r)):=fun f hf b g=>by
  have:=hl f hf
  simp only at this
  rw[ZF,this];rfl
 have e:V7 ⟨n,b,g⟩++r=(if b then Jm++[32]else[])++((if g then Zl++[32]else[])++(ZX++(32::(n++(59::10::r))))):=by simp [V7]
 have c0:=KP (w:=ZX) (r:=32::(n++(59::10::r))) rfl (Qw rfl) rfl
 have m0:Qk ZX (skip (ZX++(32::(n++(59::10::r)))))=.ok () (n++(59::10::r)):=by rw[KY (JX rfl) (VH rfl (Qw rfl)),Z6,(J3 hn).skip_app]
 refine⟨K,fun f hf=> ?_⟩
 rw[e]
 cases b <;> cases g
 ·show Yz f (skip (ZX++(32::(n++(59::10::r)))))=_
  rw[Yz,fD (by rw[c0.1];decide),fD (by rw[c0.1];decide),fC c0.1,c0.2,Z6,(J3 hn).skip_app,hch f hf]
  rfl
 ·have c1:=KP (w:=Zl) (r:=32::(ZX++(32::(n++(59::10::r))))) rfl (Qw rfl) rfl
  show Yz f (skip (Zl++(32::(ZX++(32::(n++(59::10::r)))))))=_
  rw[Yz,fD (by rw[c1.1];decide),fD (by rw[c1.1];decide),fD (by rw[c1.1];decide),fC c1.1,c1.2,Z6,m0,Q7,hch f hf]
  rfl
 ·have c1:=KP (w:=Jm) (r:=32::(ZX++(32::(n++(59::10::r))))) rfl (Qw rfl) rfl
  show Yz f (skip (Jm++(32::(ZX++(32::(n++(59::10::r)))))))=_
  rw[Yz,fD (by rw[c1.1];decide),fD (by rw[c1.1];decide),fD (by rw[c1.1];decide),fD (by rw[c1.1];decide),fC c1.1,c1.2,Z6,fD (by rw[c0.1];decide),m0,Q7,hch f hf]
  rfl
 ·have c1:=KP (w:=Jm) (r:=32::(Zl++(32::(ZX++(32::(n++(59::10::r))))))) rfl (Qw rfl) rfl
  have c2:=KP (w:=Zl) (r:=32::(ZX++(32::(n++(59::10::r))))) rfl (Qw rfl) rfl
  show Yz f (skip (Jm++(32::(Zl++(32::(ZX++(32::(n++(59::10::r)))))))))=_
  rw[Yz,fD (by rw[c1.1];decide),fD (by rw[c1.1];decide),fD (by rw[c1.1];decide),fD (by rw[c1.1];decide),fC c1.1,c1.2,Z6,fC c2.1,c2.2,Z6,m0,Q7,hch f hf]
  rfl
theorem TC {q:Bs}(hq:cur (skip q)≠VI):∀(l:List Func),Um l=true→∀acc,∃K,∀f,K≤f→∀g,l.length<g→U9 f g acc (skip (Vw l++q))=.ok (acc++l) (skip q)
 |[],_,acc=>⟨0,fun f _ g hg=>by
  obtain⟨g,rfl⟩:∃k,g=k+1:=⟨g - 1,by simp at hg;omega⟩
  show U9 f (g+1) acc (skip q)=_
  rw[U9,fD hq,cN]⟩
 |x::l,h,acc=>by
  simp only[Um,dU,cD]at h
  obtain⟨⟨⟨h1,h2⟩,h3⟩,hl⟩:=h
  obtain⟨hc,K1,h4⟩:=Se h1 h2 h3 (Vw l++q)
  obtain⟨K2,h5⟩:=TC hq l (by simpa only[Um]using hl) (acc++[x])
  refine⟨max K1 K2,fun f hf g hg=> ?_⟩
  obtain⟨g,rfl⟩:∃k,g=k+1:=⟨g - 1,by simp at hg;omega⟩
  have:=h4 f (by omega)
  simp only at this
  have e:Vw (x::l)++q=O8 x++(Vw l++q):=by simp [Vw]
  rw[e,U9,fC hc,this,Q7,h5 f (by omega) g (by simpa using hg)]
  simp
theorem Nf:∀(l:List Var) (d:Decls),(l.map fun v=>(UC v,(⟨[],[v],[]⟩:Decls))).foldl (fun(d:Decls) p=>d.add p.2) d=⟨d.clocks,d.vars++l,d.chans⟩
 |[],d=>by simp
 |v::l,d=>by rw[cJ,List.foldl_cons,Nf l];simp [Decls.add]
theorem Ng:∀(l:List Chan) (d:Decls),(l.map fun v=>(V7 v,(⟨[],[],[v]⟩:Decls))).foldl (fun(d:Decls) p=>d.add p.2) d=⟨d.clocks,d.vars,d.chans++l⟩
 |[],d=>by simp
 |v::l,d=>by rw[cJ,List.foldl_cons,Ng l];simp [Decls.add]
def IJ (ck:List Bs)(vs:List Var)(cs:List Chan):List (Bs×Decls):=(if ck=[]then[]else[(XH ck,⟨ck,[],[]⟩)])++(vs.map fun v=>(UC v,⟨[],[v],[]⟩))++cs.map fun c=>(V7 c,⟨[],[],[c]⟩)
theorem FZ (ck:List Bs)(vs:List Var)(cs:List Chan):(IJ ck vs cs).flatMap (·.1)=XH ck++vs.flatMap UC++cs.flatMap V7:=by
 have e1:((vs.map fun v=>(UC v,(⟨[],[v],[]⟩:Decls))).flatMap (·.1))=vs.flatMap UC:=by rw[List.flatMap_map]
 have e2:((cs.map fun v=>(V7 v,(⟨[],[],[v]⟩:Decls))).flatMap (·.1))=cs.flatMap V7:=by rw[List.flatMap_map]
 rw[IJ,List.flatMap_append,List.flatMap_append,e1,e2]
 by_cases hc:ck=[]
 ·subst hc;simp [XH]
 ·simp [hc]
theorem Pw (ck:List Bs)(vs:List Var)(cs:List Chan):(IJ ck vs cs).foldl (fun(d:Decls) p=>d.add p.2) (⟨[],[],[]⟩:Decls)=(⟨ck,vs,cs⟩:Decls):=by
 rw[IJ,List.foldl_append,List.foldl_append,Nf,Ng]
 by_cases hc:ck=[]
 ·subst hc;simp
 ·simp [hc,Decls.add]
theorem E0 {ck:List Bs}{vs:List Var}{cs:List Chan}(h2:∀n∈ck,Qf n=true)(h3:∀v∈vs,XV v=true)(h4:∀c∈cs,Oe c=true):∀p∈IJ ck vs cs,PP p.1 p.2:=fun p hp=>by
 rcases fW.1 hp with hp|hp
 ·rcases fW.1 hp with hp|hp
  ·by_cases hc:ck=[]
   ·rw[fC hc]at hp;cases hp
   ·rw[fD hc,dV]at hp;subst hp;exact Pu h2 hc
  ·obtain⟨v,hv,rfl⟩:=List.mem_map.1 hp;exact DN (h3 v hv)
 ·obtain⟨v,hv,rfl⟩:=List.mem_map.1 hp;exact FW (h4 v hv)
theorem F1 {m:Model}(h:WK m=true):∃K,∀N,K≤N→WQ N (skip (Xr m))=.ok m []:=by
 obtain⟨n,ck,vs,cs,fs,ps⟩:=m
 simp only[WK,cD,cH]at h
 obtain⟨⟨⟨⟨⟨h1,h2⟩,h3⟩,h4⟩,h5⟩,h6⟩:=h
 have hP:∀w,w≠Jq→w≠[]→cur (skip (ps.flatMap U4))≠w:=fun w h1 h2=>by
  have:=HT (tx:=U4) (w:=Jq) (v:=w) (q:=[]) (fun e=>h1 e.symm) (l:=ps) (fun x hx r=>(Sc (h6 x hx) r).1) (fun e=>h2 e.symm)
  simpa using this
 have hF:∀w,w≠Jq→w≠[]→w≠VI→cur (skip (Vw fs++ps.flatMap U4))≠w:=fun w h1 h2 h3=>by
  refine HT (tx:=O8) (w:=VI) (v:=w) (fun e=>h3 e.symm) (l:=fs) (fun x hx r=> ?_) (hP w h1 h2)
  simp only[Um,cH,cD]at h5
  have:=h5 x hx
  exact(Se this.1.1 (cH.2 this.1.2) this.2 r).1
 obtain⟨K1,d1⟩:=TD (q:=Vw fs++ps.flatMap U4) (fun f=>by
  have e:=fun w h1 h2 h3=>hF w h1 h2 h3
  rw[Yz,fD (e _ (by decide) (by decide) (by decide)),fD (e _ (by decide) (by decide) (by decide)),fD (e _ (by decide) (by decide) (by decide)),fD (e _ (by decide) (by decide) (by decide)),fD (e _ (by decide) (by decide) (by decide))]) (IJ ck vs cs) (E0 h2 h3 h4) ⟨[],[],[]⟩
 obtain⟨K2,d2⟩:=TC (q:=ps.flatMap U4) (hP _ (by decide) (by decide)) fs h5 []
 obtain⟨K3,d3⟩:=HJ (one:=fun f u=>W7 f u) (tx:=U4) (w:=Jq) (q:=[]) (by decide) (l:=ps) (fun x hx r=>Sc (h6 x hx) r)
 rw[cN]at d3
 rw[FZ,Pw]at d1
 refine⟨max (max K1 ((IJ ck vs cs).length+1)) (max (max K2 (fs.length+1)) K3),fun N hN=> ?_⟩
 have e:Xr ⟨n,ck,vs,cs,fs,ps⟩=W8++(32::(n++(59::10::(XH ck++vs.flatMap UC++cs.flatMap V7++(Vw fs++ps.flatMap U4))))):=by simp [Xr]
 have hc:=KP (w:=W8) rfl (Qw rfl) e
 have d3':=d3 N (by omega)
 simp only at d3'
 rw[WQ,Qk,fC hc.1,Q7,hc.2,Z6,(J3 h1).skip_app,Y7 h1 (Qw rfl),Q7,Lf,Q7,d1 N (by omega) N (by omega),Q7,d2 N (by omega) N (by omega),Q7,cI,d3',Q7,GT,fC rfl]
open Go.Ax.K
def C6:LC:=.seq (.ops [o 1 (.box 29 (t 0)),o 2 (mc (.bool false))])<|.seq (.seq (.ops [o 10 (ca 8 []),o 11 (.un .not (t 10))])<|.cond (t 11) (.seq (.ops [o 2 (mc (.bool false))])<|.ret)<|.skip)<|.seq (.seq (.ops [o 12 (la 6 1),o 13 (ca 12 [t 12]),o 14 (mv 13),gf 14 15 (la 6 1),gf 14 16 (ca 16 [t 15]),gf 14 17 (bk .neq 16 (0)),o 18 (po 14 17)])<|.cond (t 18) (.seq (.ops [o 2 (mc (.bool true))])<|.ret)<|.skip)<|.seq (.ops [o 20 (la 6 1),o 21 (ca 14 [t 20]),o 19 (mv 21),o 22 (.ext (t 19) 0),o 23 (.ext (t 19) 1),o 3 (mv 22),o 4 (mv 23)])<|.seq (.ops [o 25 (mv 3),o 26 (ca 9 [t 25]),o 24 (mv 26),o 27 (.ext (t 24) 0),o 28 (.ext (t 24) 1),o 29 (.ext (t 24) 2),⟨some 5,.alloc 29 [.string ⟨#[]⟩,.slice none 0 0,.slice none 0 0,.slice none 0 0,.slice none 0 0,.slice none 0 0],none⟩,e (.store 6 (t 5) (t 27)),o 6 (mv 28),o 7 (mv 29)])<|.seq (.seq (.ops [o 30 (mv 4),o 31 (bk .neq 30 (0))])<|.cond (t 31) (.seq (.ops [o 2 (mc (.bool false))])<|.ret)<|.skip)<|.seq (.seq (.ops [o 32 (mv 3),o 33 (.lenOf .str (t 32)),o 34 (bk .gtr 33 (20000))])<|.cond (t 34) (.seq (.ops [o 35 (mv 7),o 36 (bk .eql 35 (3)),o 2 (mv 36)])<|.ret)<|.skip)<|.seq (.ops [o 38 (la 6 5),o 39 (ca 14 [t 38]),o 37 (mv 39),o 40 (.ext (t 37) 0),o 41 (.ext (t 37) 1),o 8 (mv 40),o 9 (mv 41)])<|.seq (.ops [o 42 (mv 7),o 43 (bk .eql 42 (0)),o 44 (mv 43),gt 44 45 (mv 6),gt 44 46 (bk .eql 45 (0)),o 47 (pa 44 46),o 48 (mv 47),gt 48 49 (mv 9),gt 48 50 (bk .eql 49 (0)),o 51 (pa 48 50),o 52 (mv 51),gt 52 53 (mv 3),gt 52 54 (mv 8),gt 52 55 (bn .eql 53 54),o 56 (pa 52 55),o 57 (mv 56),gt 57 58 (la 6 1),gt 57 59 (la 6 5),gt 57 60 (ca 11 [t 58,t 59]),o 61 (pa 57 60),o 2 (mv 61)])<|.ret
theorem l6:Qa Tryz.prog 6=some ⟨62,false,[.tmp 2],C6⟩:=by kernel_rfl
end Go.Proofs.YtcbjbgaefighcaaGreatDoor
