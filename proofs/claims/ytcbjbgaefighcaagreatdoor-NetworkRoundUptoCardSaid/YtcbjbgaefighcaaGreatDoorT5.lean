/- Part 5 of the proof. -/
import Derived.Test.YtcbjbgaefighcaaGreatDoorT0
import Derived.Test.YtcbjbgaefighcaaGreatDoorT4
import Derived.WalkLawsBesides
import Derived.Orders
set_option linter.all false
namespace Go.Ax
open Go
def V3 (κ:Kn):List QV→List Deferred→Prop
 |[],l=>l=[]
 |(f,args)::r,l=>∃d ds',l=d::ds'∧(∃cap:Array Value,d.target=.fn (.func f) cap∧Qi κ args (d.args.toList++cap.toList))∧V3 κ r ds'
theorem V3.mono {κ κ':Kn}(hl:κ.le κ'):∀{ds:List QV} {l:List Deferred},V3 κ ds l→V3 κ' ds l
 |[],_,h=>by simpa[V3]using h
 |(f,args)::r,_,h=>by
  simp only[V3]at h⊢
  obtain⟨d,ds',h1,⟨cap,h2,h3⟩,h4⟩:=h
  exact⟨d,ds',h1,⟨cap,h2,Qi.mono hl _ _ h3⟩,V3.mono hl h4⟩
structure Sim (G:Nat→Option (List AV)) (κ:Kn) (env:Qn) (ds:List QV) (A:Q2) (a:Act) (w:World):Prop where
 rel:Rel G κ A w
 env:YU κ env a.tmps
 ds:V3 κ ds a.defers
section
variable {P:Program}{G:Nat→Option (List AV)}{κ:Kn}{A:Q2}{w:World}
theorem Zj (a:Act)(d:Option Nat)(u:Value):(a.put d u).tmps.size=a.tmps.size:=by
 cases d <;> simp [Act.put]
theorem Iz (a:Act)(d:Option Nat)(u:Value):(a.put d u).defers=a.defers:=by cases d <;> rfl
theorem YU.putD {env:Qn}{a:Act}(h:YU κ env a.tmps){d:Option Nat}(hd:KO a.tmps.size d=true){v:AV}{u:Value}(hv:Qd κ v u):YU κ (putD env d v) (a.put d u).tmps:=by
 cases d with
 |none=>exact h
 |some d=>exact h.put (by simpa[KO]using hd) hv
theorem Sim.step {env:Qn}{ds:List QV}{a:Act}(h:Sim G κ env ds A a w){κ':Kn}{A':Q2}{w':World}(hr:Rel G κ' A' w')(hl:κ.le κ'){d:Option Nat}(hd:KO a.tmps.size d=true){v:AV}{u:Value}(hv:Qd κ' v u):
 Sim G κ' (Ax.putD env d v) ds A' (a.put d u) w':=
 ⟨hr,(h.env.mono hl).putD hd hv,by rw[Iz];exact h.ds.mono hl⟩
theorem YH {o:Oper}{a:Act}{next:Act→World→Prop}{Q:Exit→Act→World→Prop}{u:Value}{w':World}(h:(execOp a.eval o).run P w=.ok (.value u) w')(hn:next (a.put o.dst u) w'):o.wp P a w next Q:=by
 unfold Oper.wp;rw[h];exact hn
theorem HA {o:Oper}{a:Act}{next:Act→World→Prop}{Q:Exit→Act→World→Prop}{w':World}(h:(execOp a.eval o).run P w=.ok .skip w')(hn:next (a.put o.dst undef) w'):o.wp P a w next Q:=by
 unfold Oper.wp;rw[h];exact hn
theorem GW {e:TypeId}{z:Value}(hz:Vy P e=some z)(w:World):(zeroValue e).run P w=.ok z w:=by
 unfold Vy at hz
 cases hi:P.info? e with
 |none=>simp [hi]at hz
 |some inf=>simp [hi]at hz;simp [zeroValue,typeInfo,hi,hz]
theorem XT:Qd κ J0 undef:=Jv
theorem LN {id b e E off:Nat}(h:κ.s id=some (b,e,E)):Qd κ (.ptr id off) (.pointer (some ⟨b,off,none⟩)):=by simp only[Qd];exact⟨_,_,_,h,rfl⟩
theorem EJ {id b e E:Nat}(h:κ.s id=some (b,e,E)):Qd κ (.map id) (.map (some b)):=by simp only[Qd];exact⟨_,_,_,h,rfl⟩
theorem Mq (h:Rel G κ A w){env:Qn}{a:Act}(he:YU κ env a.tmps){first cap:List AV}{fa ca:Array Value}(h1:Qi κ first fa.toList)(h2:Qi κ cap ca.toList)(args:Array Operand):
 Qi κ (first++args.toList.map (Qs G env)++cap) ((fa++args.map a.eval)++ca).toList:=by
 have:=Qi.append (Qi.append h1 (IS h he args.toList)) h2
 simpa using this
set_option maxHeartbeats 1000000 in
theorem NV {o:Oper}{lo:LOp}(hlo:Ow P o=some lo){env:Qn}{ds:List QV}{a:Act}(hdst:KO a.tmps.size o.dst=true)(hs:Sim G κ env ds A a w){K:KV}{X:XS}(h:Vv P G lo env ds A K X)
 {next:Act→World→Prop}{Q:Exit→Act→World→Prop}
 (hK:∀κ' A' v ds' a' w',Sim G κ' (Ax.putD env o.dst v) ds' A' a' w'→Step κ A w κ' A' w'→a'.tmps.size=a.tmps.size→K v ds' A'→next a' w')
 (hX:∀κ' A' v u w',Rel G κ' A' w'→YU κ' env a.tmps→V3 κ' ds a.defers→Step κ A w κ' A' w'→Qd κ' v u→X ds v A'→Q (.panic [{v:=u,recovered:=false}]) a w'):o.wp P a w next Q:=by
 have hrel:=hs.rel
 have henv:=hs.env
 unfold Ow at hlo
 cases hv:Ov P o with
 |some lo'=>
  rw[hv]at hlo
  simp only[Option.some_or,cA]at hlo
  subst hlo
  have hgen:Yo (Qu G env A lo') (fun v=>K v ds A)→o.wp P a w next Q:=fun hk=>by
   cases he:Qu G env A lo' with
   |none=>rw[he]at hk;exact hk.elim
   |some v=>
    rw[he]at hk
    obtain⟨u,hu,hr⟩:=Rz (P:=P) hrel henv hv he
    exact YH hu (hK _ _ _ _ _ _ (hs.step hrel (Kn.le_refl _) hdst hr) (Step.refl _ _ _) (Zj _ _ _) hk)
  refine hgen ?_
  unfold Vv at h
  unfold Ov at hv
  (repeat' split at hv) <;> first
   |(simp only[cA,reduceCtorEq]at hv;subst hv;exact h)
   |(simp only[cG]at hv;obtain⟨_,_,rfl⟩:=hv;exact h)
   |(simp at hv;done)
   |(simp only[Option.bind_eq_bind,fN]at hv
     obtain⟨ps,_,hv⟩:=hv
     simp only[cA,reduceCtorEq]at hv;subst hv;exact h)
 |none=>
  rw[hv]at hlo
  simp only[Option.none_or]at hlo
  obtain⟨idst,op,ty,pos,aft,gd⟩:=o
  simp only at hlo hdst
  clear hv
  unfold N7 at hlo
  split at hlo
  ·rename_i e heq
   simp only at heq;subst heq
   simp only[cG]at hlo
   obtain⟨z,hz,rfl⟩:=hlo
   simp only[Vv]at h
   obtain⟨id,h1,h2,h5,h3,h4⟩:=hrel.newCells (arr:=z.cells) (el:=e) (Wf κ z.cells.toList)
   refine YH (u:=.pointer (some ⟨w.heap.size,0,none⟩)) (w':=w.alloc (.cells z.cells e)) ?_ (hK _ _ _ _ _ _ (hs.step (v:=.ptr id 0) h3 h4.le hdst ?_) h4 (Zj _ _ _) (h id h2 h5))
   ·simp [execOp,Instr.alloc,GW hz,newVar,newRow]
   ·exact LN (Xc _ _ _)
  ·rename_i e x heq
   simp only at heq;subst heq
   simp only[cA]at hlo
   subst hlo
   simp only[Vv]at h
   obtain⟨id,h1,h2,h5,h3,h4⟩:=hrel.newCells (arr:=(a.eval x).cells) (el:=e) (OM (QI hrel henv x))
   refine YH (u:=.pointer (some ⟨w.heap.size,0,none⟩)) (w':=w.alloc (.cells (a.eval x).cells e)) ?_ (hK _ _ _ _ _ _ (hs.step (v:=.ptr id 0) h3 h4.le hdst ?_) h4 (Zj _ _ _) (h id h2))
   ·simp [execOp,Instr.box,newVar,newRow]
   ·exact LN (Xc _ _ _)
  ·rename_i t ad v heq
   simp only at heq;subst heq
   simp only[cG]at hlo
   obtain⟨inf,hinf,rfl⟩:=hlo
   simp only[Vv]at h
   have had:=QI hrel henv ad
   have hvr:=OM (QI hrel henv v)
   split at h
   ·rename_i id off hada
    rw[hada]at had
    simp only[Qd]at had
    obtain⟨b,e,E,hsid,had⟩:=had
    cases hob:A id with
    |none=>rw[hob]at h;exact h.elim
    |some ob=>
     rw[hob]at h
     cases ob with
     |cells cs=>
      simp only[Jk]at h
      obtain⟨g1,g2,g3,g4⟩:=h
      have hul:=hvr.length
      simp only[dR]at hul
      obtain⟨w',q1,q2,q3⟩:=LE (P:=P) b off _ _ 0 cs A w id e E hrel hvr (LR hvr g3) hob hsid (by omega)
      simp only[fS]at q2 q3
      refine HA (w':=w') ?_ (hK _ _ _ _ _ _ (hs.step q2 q3.le hdst XT) q3 (Zj _ _ _) g4)
      have hsz:¬(a.eval v).cells.size≠inf.size:=by omega
      simp [execOp,Instr.storeAt,Instr.sureAddr,had,storeVar,sizeOf,typeInfo,hinf,hsz,q1]
     |_=>exact h.elim
   ·exact h.elim
  ·rename_i t len parts heq
   simp only at heq;subst heq
   split at hlo
   ·rename_i e ht
    split at hlo
    ·rename_i inf z hi hz
     have key:∀(len':Nat) (pl:List (Nat×Operand)),len'=len→pl=parts.toList→((0<len*inf.size∧len*inf.size≤16777216)∨(len=0∧parts.toList=[]))→lo=.bslice e inf.size len' z.cells.toList pl→
      (⟨idst,.buildSlice t len parts,ty,pos,aft,gd⟩:Oper).wp P a w next Q:=fun len' pl e1 e2 hc e3=>by
      subst e1;subst e2;subst e3
      simp only[Vv]at h
      cases hl:Xp inf.size len' z.cells.toList (parts.toList.map fun(i,x)=>(i,Qs G env x))with
      |none=>rw[hl]at h;exact h.elim
      |some cs=>
       rw[hl]at h
       simp only[Jk]at h
       obtain⟨κ',t',u,w',h1,h2,h3,h4,h5,h6⟩:=Rj (P:=P) hrel (t:=t) (len:=len') (parts:=parts.map fun(i,x)=>(i,a.eval x)) ht hi hz rfl
        (hc.elim .inl fun⟨q1,q2⟩=>.inr ⟨q1,by simpa using q2,by simp [q2]⟩) (by simp) (fun i p q hp hq=>by
         simp only[Array.toList_map,List.getElem?_map,cG]at hp hq
         obtain⟨x,x1,rfl⟩:=hp
         obtain⟨y,y1,rfl⟩:=hq
         rw[x1]at y1;simp only[cA]at y1;subst y1
         exact⟨rfl,QI hrel henv _⟩) hl
       exact YH (u:=u) (w':=w') (by simp [execOp,h1]) (hK _ _ _ _ _ _ (hs.step h4 h5.le hdst h6) h5 (Zj _ _ _) (h t' h3))
     split at hlo
     ·rename_i hc
      simp only[cA]at hlo
      exact key _ _ rfl rfl (.inl ⟨hc.1,hc.2.1⟩) hlo.symm
     ·split at hlo
      ·rename_i hc
       simp only[cA]at hlo
       exact key 0 [] hc.1.symm hc.2.symm (.inr hc) hlo.symm
      ·simp at hlo
    ·simp at hlo
   ·simp at hlo
  ·rename_i s d x heq
   simp only at heq;subst heq
   split at hlo
   ·rename_i e hs1 QO
    split at hlo
    ·rename_i he1
     simp only[cA]at hlo
     subst hlo
     simp only[Vv]at h
     have hx:=QI hrel henv x
     split at h
     ·rename_i l hxa
      rw[hxa]at hx
      simp only[Qd]at hx
      obtain⟨κ',u,w',h1,h2,h3,h4⟩:=NB (P:=P) hrel (l:=l) hs1 QO he1
      exact YH (u:=u) (w':=w') (by simp [execOp,hx,h1]) (hK _ _ _ _ _ _ (hs.step h2 h3.le hdst h4) h3 (Zj _ _ _) h)
     ·exact h.elim
    ·simp at hlo
   ·simp at hlo
  ·rename_i args tys heq
   simp only at heq;subst heq
   split at hlo
   ·rename_i s x t tx ha1 ht1
    split at hlo
    ·simp at hlo
    ·rename_i e d hnt ht2 hd2
     split at hlo
     ·rename_i inf hi
      split at hlo
      ·rename_i z hz
       split at hlo
       ·rename_i hc
        simp only[cA]at hlo
        subst hlo
        simp only[Vv]at h
        have ea:args=#[s,x]:=by apply dN.1;simpa using ha1
        have et:tys=#[t,tx]:=by apply dN.1;simpa using ht1
        subst ea;subst et
        obtain⟨κ',A',v,u,w',h1,h2,h3,h4,h5⟩:=Rk (P:=P) hrel (ty:=ty) ht2 hi hd2 hnt hz hc.2 hc.1 (QI hrel henv s) (QI hrel henv x) h
        exact YH (u:=u) (w':=w') (by simp [execOp,resolve,invoke,builtin,h1]) (hK _ _ _ _ _ _ (hs.step h2 h3.le hdst h4) h3 (Zj _ _ _) h5)
       ·simp at hlo
      ·simp at hlo
     ·simp at hlo
    ·simp at hlo
   ·simp at hlo
  ·rename_i f args tys heq
   simp only at heq;subst heq
   simp only[cA]at hlo
   subst hlo
   simp only[Vv]at h
   have hf:=QI hrel henv f
   split at h
   ·rename_i fid first cap hfa
    rw[hfa]at hf
    simp only[Qd]at hf
    obtain⟨fa,ca,hf,hfr,hcr⟩:=hf
    obtain⟨hg,hcall⟩:=h
    have:=hcall κ w hrel ((fa++args.map a.eval)++ca) (Mq hrel henv hfr hcr args)
    have hrun:(execOp a.eval ⟨idst,.call {callee:=.value f,args:=args,argTypes:=tys},ty,pos,aft,gd⟩).run P w=.ok (.enter fid ((fa++args.map a.eval)++ca)) w:=by
     unfold WD at hg
     split at hg
     ·rename_i fn hfn
      simp only[cD,bne_iff_ne]at hg
      obtain⟨bd,hbd⟩:=fU.1 hg.1
      simp [execOp,resolve,hf,Deferred.ofValue,invoke,callFunc,hfn,hg.2,hbd]
     ·simp at hg
    unfold Oper.wp
    rw[hrun]
    refine Calls.mono this fun e w' ⟨κ',A',o,r1,r2,r3,r4⟩=> ?_
    cases o with
    |ret v=>
     obtain⟨u,rfl,hu⟩:=r3
     exact hK _ _ _ _ _ _ (hs.step r1 r2.le hdst hu) r2 (Zj _ _ _) r4
    |pan v=>
     obtain⟨u,rfl,hu⟩:=r3
     exact hX _ _ _ _ _ r1 (henv.mono r2.le) (hs.ds.mono r2.le) r2 hu r4
   ·exact h.elim
  ·rename_i f args tys heq
   simp only at heq;subst heq
   simp only[cA]at hlo
   subst hlo
   simp only[Vv]at h
   have hf:=QI hrel henv f
   split at h
   ·rename_i fid first cap hfa
    rw[hfa]at hf
    simp only[Qd]at hf
    obtain⟨fa,ca,hf,hfr,hcr⟩:=hf
    have hrun:(execOp a.eval ⟨idst,.defer {callee:=.value f,args:=args,argTypes:=tys},ty,pos,aft,gd⟩).run P w=.ok (.defer {target:=.fn (.func fid) ca,args:=fa++args.map a.eval}) w:=by
     simp [execOp,resolve,hf,Deferred.ofValue]
    unfold Oper.wp
    rw[hrun]
    refine hK _ _ _ _ _ _ ⟨hrel,YU.putD (a:={a with defers:={target:=.fn (.func fid) ca,args:=fa++args.map a.eval}::a.defers}) henv hdst XT,?_⟩ (Step.refl _ _ _) (Zj _ _ _) h
    rw[Iz]
    simp only[V3]
    exact⟨_,_,rfl,⟨ca,rfl,by simpa using Mq hrel henv hfr hcr args⟩,hs.ds⟩
   ·exact h.elim
  ·rename_i x heq
   simp only at heq;subst heq
   simp only[cA]at hlo
   subst hlo
   simp only[Vv]at h
   have hx:=QI hrel henv x
   split at h
   ·rename_i t v hxa
    rw[hxa]at hx
    have hx0:=hx
    simp only[Qd]at hx
    obtain⟨y,hx,hy⟩:=hx
    unfold Oper.wp
    have hrun:(execOp a.eval ⟨idst,.panic x,ty,pos,aft,gd⟩).run P w=.halt (.panic (.iface t y)) w:=by
     simp [execOp,Instr.panic,hx,goPanic]
    rw[hrun]
    exact hX _ _ _ _ _ hrel henv hs.ds (Step.refl _ _ _) (hx▸hx0) h
   ·exact h.elim
  ·rename_i t heq
   simp only at heq;subst heq
   simp only[cA]at hlo
   subst hlo
   simp only[Vv]at h
   obtain⟨id,h1,h2,h3,h4⟩:=hrel.newMap
   refine YH (u:=.map (some w.heap.size)) (w':=w.alloc (.map #[] 0)) ?_ (hK _ _ _ _ _ _ (hs.step (v:=.map id) h3 h4.le hdst ?_) h4 (Zj _ _ _) (h id h2 (hrel.no_mit h1)))
   ·simp [execOp,Instr.makeMap]
   ·exact EJ (Xc _ _ _)
  ·rename_i t m k v heq
   simp only at heq;subst heq
   split at hlo
   ·rename_i kt vt ht
    split at hlo
    ·rename_i fk hfk
     simp only[cA]at hlo
     subst hlo
     simp only[Vv]at h
     split at h
     ·rename_i id hma
      have hm:=QI hrel henv m
      rw[hma]at hm
      cases hob:A id with
      |none=>rw[hob]at h;exact h.elim
      |some ob=>
       rw[hob]at h
       cases ob with
       |mp es=>
        simp only[Jk]at h
        obtain⟨g1,g2⟩:=h
        cases he:Oj fk (Qs G env k) (Qs G env v) es with
        |none=>rw[he]at g2;exact g2.elim
        |some es'=>
         rw[he]at g2
         obtain⟨w',q1,q2,q3⟩:=Ln (P:=P) hrel ht hfk hob hm (QI hrel henv k) (QI hrel henv v) g1 he
         refine HA (w':=w') ?_ (hK _ _ _ _ _ _ (hs.step q2 q3.le hdst XT) q3 (Zj _ _ _) g2)
         simp [execOp,q1]
       |_=>exact h.elim
     ·exact h.elim
    ·simp at hlo
   ·simp at hlo
  ·rename_i t m k v heq
   simp only at heq;subst heq
   split at hlo
   ·rename_i kt vt ht
    split at hlo
    ·rename_i fk hfk
     simp only[cA]at hlo
     subst hlo
     simp only[Vv]at h
     split at h
     ·rename_i id hma
      have hm:=QI hrel henv m
      rw[hma]at hm
      cases hob:A id with
      |none=>rw[hob]at h;exact h.elim
      |some ob=>
       rw[hob]at h
       cases ob with
       |mp es=>
        simp only[Jk]at h
        obtain⟨g1,g2⟩:=h
        cases he:Oj fk (Qs G env k) (Qs G env v) es with
        |none=>rw[he]at g2;exact g2.elim
        |some es'=>
         rw[he]at g2
         obtain⟨w',q1,q2,q3⟩:=Ln (P:=P) hrel ht hfk hob hm (QI hrel henv k) (QI hrel henv v) g1 he
         refine HA (w':=w') ?_ (hK _ _ _ _ _ _ (hs.step q2 q3.le hdst XT) q3 (Zj _ _ _) g2)
         simp [execOp,q1]
       |_=>exact h.elim
     ·exact h.elim
    ·simp at hlo
   ·simp at hlo
  ·rename_i t x heq
   simp only at heq;subst heq
   split at hlo
   ·rename_i kt vt ht
    simp only[cA]at hlo
    subst hlo
    simp only[Vv]at h
    have hx:=QI hrel henv x
    split at h
    ·rename_i hxa
     rw[hxa]at hx
     simp only[Qd]at hx
     obtain⟨id,w',r,h1,h2,h3,h4,h5,h6⟩:=NG (P:=P) hrel ht
     exact YH (u:=r) (w':=w') (by simp [execOp,hx,h3]) (hK _ _ _ _ _ _ (hs.step h4 h5.le hdst h6) h5 (Zj _ _ _) (h id h2))
    ·rename_i m hxa
     rw[hxa]at hx
     cases hob:A m with
     |none=>rw[hob]at h;exact h.elim
     |some ob=>
      rw[hob]at h
      cases ob with
      |mp es=>
       simp only[Jk]at h
       obtain⟨id,w',r,h1,h2,h3,h4,h5,h6⟩:=Ro (P:=P) hrel ht hob hx
       exact YH (u:=r) (w':=w') (by simp [execOp,h3]) (hK _ _ _ _ _ _ (hs.step h4 h5.le hdst h6) h5 (Zj _ _ _) (h id h2))
      |_=>exact h.elim
    ·exact h.elim
   ·simp at hlo
  ·rename_i x heq
   simp only at heq;subst heq
   simp only[cA]at hlo
   subst hlo
   simp only[Vv]at h
   have hx:=QI hrel henv x
   split at h
   ·rename_i id hxa
    rw[hxa]at hx
    cases hob:A id with
    |none=>rw[hob]at h;exact h.elim
    |some ob=>
     rw[hob]at h
     cases ob with
     |mit m left last=>
      simp only[Jk]at h
      obtain⟨g1,g2⟩:=h
      have hff:Qd κ (.tuple [.raw (.bool false)]) (.tuple #[.bool false]):=by simp only[Qd];exact⟨_,rfl,by simp [Qi,Qd]⟩
      cases m with
      |none=>
       obtain⟨q1,q2⟩:=FB (P:=P) (ty:=ty) hrel hob hx
       exact YH (u:=.tuple #[.bool false]) (w':=w) (by simp [execOp,q2]) (hK _ _ _ _ _ _ (hs.step hrel (Kn.le_refl _) hdst hff) (Step.refl _ _ _) (Zj _ _ _) (g1 q1))
      |some m=>
       rcases Pi (P:=P) (ty:=ty) hrel hob hx with⟨q1,q2⟩|⟨j,k,v,uk,uv,w',q1,q2,q3,q4,q5,q6⟩
       ·exact YH (u:=.tuple #[.bool false]) (w':=w) (by simp [execOp,q2]) (hK _ _ _ _ _ _ (hs.step hrel (Kn.le_refl _) hdst hff) (Step.refl _ _ _) (Zj _ _ _) (g1 q1))
       ·refine YH (u:=.tuple #[.bool true,uk,uv]) (w':=w') (by simp [execOp,q2]) (hK _ _ _ _ _ _ (hs.step q5 q6.le hdst ?_) q6 (Zj _ _ _) (g2 j k v q1))
        simp only[Qd]
        exact⟨_,rfl,by simp only[Qi];exact⟨_,_,rfl,Jv,_,_,rfl,q3,_,_,rfl,q4,rfl⟩⟩
     |_=>exact h.elim
   ·exact h.elim
  ·rename_i x heq
   simp only at heq;subst heq
   simp only[cA]at hlo
   subst hlo
   simp only[Vv]at h
   have hx:=QI hrel henv x
   split at h
   ·rename_i id hxa
    rw[hxa]at hx
    cases hob:A id with
    |none=>rw[hob]at h;exact h.elim
    |some ob=>
     rw[hob]at h
     simp only[Jk]at h
     split at h
     ·rename_i m left k v
      obtain⟨uk,uv,q1,q2,q3⟩:=RA (P:=P) hrel hob hx
      refine YH (u:=.tuple #[uk,uv]) (w':=w) (by simp [execOp,q1]) (hK _ _ _ _ _ _ (hs.step hrel (Kn.le_refl _) hdst ?_) (Step.refl _ _ _) (Zj _ _ _) h)
      simp only[Qd]
      exact⟨_,rfl,by simp only[Qi];exact⟨_,_,rfl,q2,_,_,rfl,q3,rfl⟩⟩
     ·exact h.elim
   ·exact h.elim
  ·simp at hlo
end
def SL:Option Operand→List Operand
 |some x=>[x]
 |none=>[]
def LOp.opnds:LOp→List Operand
 | .mv x| .nchk x| .un _ x| .conv _ x| .same x| .b2s x| .fld _ x| .field _ _ _ x| .load _ _ x| .ext x _| .mkI _ x| .lenOf _ x| .tas _ _ x| .box _ x| .s2b _ x| .pan x| .rng x| .nxt x| .ent x=>[x]
 | .pick c a b=>[c,a,b]
 | .bin _ _ x y| .idxP _ _ x y| .idxS _ x y| .idxV _ _ _ x y| .idxStr x y| .mm _ x y| .look _ _ _ x y| .store _ x y| .app _ _ _ x y=>[x,y]
 | .build _ ps=>ps.map fun p=>p.2.2
 | .mkF _ f c=>f++c
 | .slStr x lo hi| .slSl _ x lo hi=>x::(SL lo++SL hi)
 | .alloc .. | .mkMap=>[]
 | .bslice _ _ _ _ ps=>ps.map fun p=>p.2
 | .call f args| .dfr f args=>f::args
 | .mset _ k v m=>[k,v,m]
def LOp.isV:LOp→Bool
 | .alloc .. | .mkMap| .bslice .. | .call .. | .dfr .. | .mset .. | .box .. | .s2b .. | .pan .. | .rng .. | .nxt .. | .ent .. | .store .. | .app .. =>false
 |_=>true
def LOp.rd:LOp→Bool
 | .load .. | .look .. | .lenOf .map _=>true
 |_=>false
def PU (l:List Operand):List Nat:=l.filterMap fun| .tmp t=>some t|_=>none
def LInstr.looks (i:LInstr):List Nat:=
 PU i.op.opnds++(match i.guard with
  |some (j,_)=>[j]
  |none=>[])
def LInstr.apart (x y:LInstr):Bool:=
 (match x.dst with
  |some d=> !(y.looks).contains d&&y.dst !=some d
  |none=>true)&&
 (match y.dst with
  |some d=> !(x.looks).contains d
  |none=>true)
section
variable (G:Nat→Option (List AV))
def V2 (i:LInstr)(env:Qn)(A:Q2):Option AV:=
 match i.guard with
 |none=>Qu G env A i.op
 |some (j,want)=>match UJ want (env j)with
  |some true=>Qu G env A i.op
  |some false=>some J0
  |none=>none
end
inductive Sched where
 |done
 |nil
 |val (k:Nat) (rd:Bool) (i:LInstr) (rest:Sched)
 |eff (i:LInstr) (need:List Nat) (next other:Sched)
 deriving Inhabited
inductive LC where
 |skip
 |ops (l:List LInstr)
 |draw (s:Sched)
 |seq (a b:LC)
 |cond (x:Operand) (a b:LC)
 |block (id:Nat) (c:LC)
 |loop (c:LC)
 |exit (id:Nat)
 |ret
 deriving Inhabited
inductive LExit where
 |normal
 |exit (id:Nat)
 |ret
 deriving DecidableEq
abbrev QL:=LExit→Qn→List QV→Q2→Prop
abbrev VW:=List (Nat×(Q2→Prop))
def I5 (need:List Nat):VW→Q2→Prop
 |[],_=>True
 |(k,p)::r,A=>(if need.contains k then p A else True)∧I5 need r A
section
variable (P:Program)(G:Nat→Option (List AV))(rt:List Nat)
def WS:Sched→VW→Qn→List QV→Q2→KS→XE→Prop
 | .done,_,env,ds,A,K,_=>K env ds A
 | .nil,_,_,_,_,_,_=>True
 | .val k rd i rest,W,env,ds,A,K,X=>Yo (V2 G i env A) fun v=>WS rest (if rd then(k,fun A'=>V2 G i env A'=some v)::W else W) (putD env i.dst v) ds A K X
 | .eff i need next other,W,env,ds,A,K,X=>
  YD P G i env ds A (fun env' ds' A'=>I5 need W A'∧WS next W env' ds' A' K X) (X (Yq rt env))∧WS other W env ds A K X
def L0 (next:KS)(Q:QL):QL
 | .normal=>next
 |e=>Q e
def OD (id:Nat)(Q:QL):QL
 | .exit j=>if j=id then Q .normal else Q (.exit j)
 |e=>Q e
def WL:LC→Qn→List QV→Q2→QL→XE→Prop
 | .skip,env,ds,A,Q,_=>Q .normal env ds A
 | .ops l,env,ds,A,Q,X=>YF P G rt l env ds A (Q .normal) X
 | .draw s,env,ds,A,Q,X=>WS P G rt s [] env ds A (Q .normal) X
 | .seq a b,env,ds,A,Q,X=>WL a env ds A (L0 (fun env ds A=>WL b env ds A Q X) Q) X
 | .cond x a b,env,ds,A,Q,X=>match Qs G env x with
  | .raw (.bool t)=>if t then WL a env ds A Q X else WL b env ds A Q X
  |_=>False
 | .block id c,env,ds,A,Q,X=>WL c env ds A (OD id Q) X
 | .loop c,env,ds,A,Q,X=>∃I:Nat→Qn→List QV→Q2→Prop,(∃n,I n env ds A)∧
  ∀n env ds A,I n env ds A→WL c env ds A (L0 (fun env ds A=>∃m,m<n∧I m env ds A) Q) X
 | .exit id,env,ds,A,Q,_=>Q (.exit id) env ds A
 | .ret,env,ds,A,Q,_=>Q .ret env ds A
end
def Ox (P:Program)(n:Nat)(ops:Array Oper)(o:Oper):Option LInstr:=
 if KO n o.dst then match Ow P o with
  |some lo=>match o.guard with
   |none=>some ⟨o.dst,lo,none⟩
   |some (j,want)=>match(ops[j]?).bind (·.dst)with
    |some t=>if t<n then some ⟨o.dst,lo,some (t,want)⟩else none
    |none=>none
  |none=>none
 else none
def Uc (P:Program)(n:Nat)(ops:Array Oper):List Oper→Option (List LInstr)
 |[]=>some []
 |o::r=>match Ox P n ops o,Uc P n ops r with
  |some i,some l=>some (i::l)
  |_,_=>none
def Wi (ops:Array Oper)(k:Nat):List Nat:=match ops[k]? with
 |some o=>(o.after.toList.filter (Region.binds .any)).map (·.on)
 |none=>[]
def Oq (ops:Array Oper):Nat→List Nat→List Nat→List Nat
 |0,seen,_=>seen
 |_+1,seen,[]=>seen
 |f+1,seen,k::r=>if seen.contains k then Oq ops f seen r else Oq ops f (k::seen) (Wi ops k++r)
def Oi (ops:Array Oper)(j:Nat):List Nat:=Oq ops (ops.size*ops.size+ops.size) [] (Wi ops j)
def Ef (ops:Array Oper)(L:List LInstr)(listed:Array Bool)(k:Nat):Bool:=
 match L[k]? with
 |none=>false
 |some i=>(List.range ops.size).all fun j=>j==k||listed.getD j true||match L[j]? with
  |some y=>i.apart y||(Oi ops j).contains k
  |none=>true
def Lg (rt:List Nat):Option Nat→Bool
 |some d=> !rt.contains d
 |none=>true
def MY (ops:Array Oper)(L:List LInstr)(early:List Nat)(nx:Nat→Option Sched):List Nat→Option Sched
 |[]=>some .nil
 |j::r=>match L[j]? with
  |some i=>if i.op.isV then none else match nx j,MY ops L early nx r with
   |some next,some other=>some (.eff i (early.filter fun k=> !(Oi ops j).contains k) next other)
   |_,_=>none
  |none=>none
def Wq (rt:List Nat)(ops:Array Oper)(L:List LInstr):Nat→Array Bool→List Nat→Option Sched
 |0,listed,_=>if(Region.ready .any ops listed).isEmpty then some .done else none
 |f+1,listed,early=>
  match(Region.ready .any ops listed).find? (fun k=>match L[k]? with
   |some i=>i.op.isV&&Lg rt i.dst&&Ef ops L listed k
   |none=>false)with
  |some k=>match L[k]? with
   |some i=>(Wq rt ops L f (listed.setIfInBounds k true) (if i.op.rd then k::early else early)).map (.val k i.op.rd i)
   |none=>none
  |none=>match Region.ready .any ops listed with
   |[]=>some .done
   |rs=>MY ops L early (fun j=>Wq rt ops L f (listed.setIfInBounds j true) early) rs
def Ya (P:Program)(n:Nat)(rt:List Nat):Code→Option LC
 | .skip=>some .skip
 | .region _ ops false=>(Uc P n ops ops.toList).map .ops
 | .region _ ops true=>match Uc P n ops ops.toList with
  |some L=>if P.follows .mixedOrders&&ops.toList.all (fun o=>o.after.all fun e=>decide (e.on<ops.size))then(Wq rt ops L ops.size (Array.replicate ops.size false) []).map .draw else none
  |none=>none
 | .seq a b=>match Ya P n rt a,Ya P n rt b with
  |some x,some y=>some (.seq x y)
  |_,_=>none
 | .cond c a b=>match Ya P n rt a,Ya P n rt b with
  |some x,some y=>some (.cond c x y)
  |_,_=>none
 | .block id c=>(Ya P n rt c).map (.block id)
 | .loop c=>(Ya P n rt c).map .loop
 | .exit id=>some (.exit id)
 | .ret=>some .ret
 |_=>none
section
variable {P:Program}{G:Nat→Option (List AV)}{rt:List Nat}
theorem Fl {env:Qn}{d:Option Nat}{v:AV}{x:Operand}(h:∀t,d=some t→x≠ .tmp t):Qs G (putD env d v) x=Qs G env x:=by
 cases d with
 |none=>rfl
 |some t=>
  cases x with
  |tmp s=>
   have hne:s≠t:=fun e=>h t rfl (e▸rfl)
   simp only[Qs,putD]
   exact WJ env v hne
  |_=>rfl
theorem Hd {env env':Qn}{l:List Operand}(h:∀x∈l,Qs G env x=Qs G env' x):l.map (Qs G env)=l.map (Qs G env'):=
 List.map_congr_left h
theorem IT {env env':Qn}{o:Option Operand}(h:∀x∈SL o,Qs G env x=Qs G env' x):o.map (Qs G env)=o.map (Qs G env'):=by
 cases o with
 |none=>rfl
 |some x=>simp only[cO];rw[h x (by simp [SL])]
theorem Id {env env':Qn}{A:Q2}{lo:LOp}(h:∀x∈lo.opnds,Qs G env x=Qs G env' x):Qu G env A lo=Qu G env' A lo:=by
 cases lo <;> simp only[LOp.opnds,dT,dL,or_false,forall_eq_or_imp,forall_eq,fW]at h <;> simp only[Qu]
 case mv=>rw[h]
 case nchk=>rw[h]
 case pick=>rw[h.1,h.2.1,h.2.2]
 case bin=>rw[h.1,h.2]
 case un=>rw[h]
 case conv=>rw[h]
 case same=>rw[h]
 case b2s=>rw[h]
 case fld=>rw[h]
 case field=>rw[h]
 case idxP=>rw[h.1,h.2]
 case idxS=>rw[h.1,h.2]
 case idxV=>rw[h.1,h.2]
 case idxStr=>rw[h.1,h.2]
 case load=>rw[h]
 case ext=>rw[h]
 case build z ps=>
  have e:(ps.map fun(o,s,x)=>(o,s,Qs G env x))=ps.map fun(o,s,x)=>(o,s,Qs G env' x):=
   List.map_congr_left fun p hp=>by obtain⟨o,s,x⟩:=p;simp only[cW,true_and];exact h x (List.mem_map.2 ⟨_,hp,rfl⟩)
  rw[e]
 case mkI=>rw[h]
 case mkF=>rw[Hd fun x hx=>h x (.inl hx),Hd fun x hx=>h x (.inr hx)]
 case slStr=>rw[h.1,IT fun x hx=>h.2 x (.inl hx),IT fun x hx=>h.2 x (.inr hx)]
 case slSl=>rw[h.1,IT fun x hx=>h.2 x (.inl hx),IT fun x hx=>h.2 x (.inr hx)]
 case lenOf=>rw[h]
 case mm=>rw[h.1,h.2]
 case tas=>rw[h]
 case look=>rw[h.1,h.2]
theorem NW {env env':Qn}{ds:List QV}{A:Q2}{lo:LOp}{K:KV}{X:XS}(h:∀x∈lo.opnds,Qs G env x=Qs G env' x):Vv P G lo env ds A K X=Vv P G lo env' ds A K X:=by
 have hv:=Id (A:=A) h
 cases lo <;> simp only[LOp.opnds,dT,dL,or_false,forall_eq_or_imp,forall_eq,fW]at h <;> simp only[Vv,hv]
 case box=>rw[h]
 case store=>rw[h.1,h.2]
 case bslice e sz len z ps=>
  have e:(ps.map fun(i,x)=>(i,Qs G env x))=ps.map fun(i,x)=>(i,Qs G env' x):=
   List.map_congr_left fun p hp=>by obtain⟨o,x⟩:=p;simp only[cW,true_and];exact h x (List.mem_map.2 ⟨_,hp,rfl⟩)
  rw[e]
 case s2b=>rw[h]
 case app=>rw[h.1,h.2]
 case call=>rw[h.1,Hd fun x hx=>h.2 x hx]
 case dfr=>rw[h.1,Hd fun x hx=>h.2 x hx]
 case pan=>rw[h]
 case mset=>rw[h.1,h.2.1,h.2.2]
 case rng=>rw[h]
 case nxt=>rw[h]
 case ent=>rw[h]
theorem Vn {α:Type}{o:Option α}{K K':α→Prop}(hk:∀v,o=some v→K v→K' v)(h:Yo o K):Yo o K':=by
 cases o with
 |none=>exact h
 |some v=>exact hk v rfl h
theorem HL {env:Qn}{ds:List QV}{A:Q2}{lo:LOp}{K K':KV}{X X':XS}(hk:∀v ds' A',(lo.isV=true→ds'=ds∧A'=A)→K v ds' A'→K' v ds' A')(hx:∀v A',X ds v A'→X' ds v A')(h:Vv P G lo env ds A K X):Vv P G lo env ds A K' X':=by
 have hv:∀lo':LOp,lo'=lo→Yo (Qu G env A lo') (fun v=>K v ds A)→Yo (Qu G env A lo') (fun v=>K' v ds A):=fun lo' _=>Vn fun v _=>hk v ds A fun _=>⟨rfl,rfl⟩
 cases lo <;> simp only[Vv]at h⊢
 case alloc=>exact fun id hid he=>hk _ _ _ (by simp [LOp.isV]) (h id hid he)
 case box=>exact fun id hid=>hk _ _ _ (by simp [LOp.isV]) (h id hid)
 case store=>
  split at h
  ·revert h
   refine Vn fun ob _ h=> ?_
   split at h
   ·exact⟨h.1,h.2.1,h.2.2.1,hk _ _ _ (by simp [LOp.isV]) h.2.2.2⟩
   ·exact h
  ·exact h
 case bslice=>exact Vn (fun cs _ h t ht=>hk _ _ _ (by simp [LOp.isV]) (h t ht)) h
 case s2b=>
  split at h
  ·exact hk _ _ _ (by simp [LOp.isV]) h
  ·exact h
 case app=>
  unfold LH at h⊢
  revert h
  refine Vn fun p _ h=> ?_
  obtain⟨m,cs⟩:=p
  simp only at h⊢
  split at h
  ·split at h
   ·rename_i hm;rw[fC hm];exact hk _ _ _ (by simp [LOp.isV]) h
   ·rename_i hm;rw[fD hm];exact⟨h.1,fun t ht he=>hk _ _ _ (by simp [LOp.isV]) (h.2 t ht he)⟩
  ·exact⟨h.1,h.2.1,h.2.2.1,h.2.2.2.1,fun t ht he=>hk _ _ _ (by simp [LOp.isV]) (h.2.2.2.2 t ht he)⟩
  ·exact h
 case call=>
  split at h
  ·refine h.mono fun o A' h=> ?_
   cases o with
   |ret v=>exact hk _ _ _ (by simp [LOp.isV]) h
   |pan v=>exact hx _ _ h
  ·exact h
 case dfr=>
  split at h
  ·exact hk _ _ _ (by simp [LOp.isV]) h
  ·exact h
 case pan=>
  split at h
  ·exact hx _ _ h
  ·exact h
 case mkMap=>exact fun id hid hm=>hk _ _ _ (by simp [LOp.isV]) (h id hid hm)
 case mset=>
  split at h
  ·revert h
   refine Vn fun ob _ h=> ?_
   split at h
   ·exact⟨h.1,Vn (fun es _ h=>hk _ _ _ (by simp [LOp.isV]) h) h.2⟩
   ·exact h
  ·exact h
 case rng=>
  split at h
  ·exact fun id hid=>hk _ _ _ (by simp [LOp.isV]) (h id hid)
  ·revert h
   refine Vn fun ob _ h=> ?_
   split at h
   ·exact fun id hid=>hk _ _ _ (by simp [LOp.isV]) (h id hid)
   ·exact h
  ·exact h
 case nxt=>
  split at h
  ·revert h
   refine Vn fun ob _ h=> ?_
   split at h
   ·exact⟨fun e=>hk _ _ _ (by simp [LOp.isV]) (h.1 e),fun j k v e=>hk _ _ _ (by simp [LOp.isV]) (h.2 j k v e)⟩
   ·exact h
  ·exact h
 case ent=>
  split at h
  ·revert h
   refine Vn fun ob _ h=> ?_
   split at h
   ·exact hk _ _ _ (by simp [LOp.isV]) h
   ·exact h
  ·exact h
 all_goals exact hv _ rfl h
theorem LP {env:Qn}{ds:List QV}{A:Q2}{lo:LOp}{K:KV}{X:XS}(hv:lo.isV=true):Vv P G lo env ds A K X=Yo (Qu G env A lo) fun v=>K v ds A:=by
 cases lo <;> simp [LOp.isV]at hv <;> rfl
theorem Pj {l:List Operand}{t:Nat}(h: .tmp t∈l):t∈PU l:=List.mem_filterMap.2 ⟨_,h,rfl⟩
theorem O1 {i:LInstr}{d:Option Nat}(h:∀t,d=some t→t∉i.looks)(env:Qn)(v:AV):∀x∈i.op.opnds,Qs G (putD env d v) x=Qs G env x:=fun x hx=>
 Fl fun t ht e=>h t ht (List.mem_append_left _ (Pj (e▸hx)))
theorem Lt {i:LInstr}{d:Option Nat}(h:∀t,d=some t→t∉i.looks)(env:Qn)(v:AV){j:Nat}{want:Bool}(hg:i.guard=some (j,want)):putD env d v j=env j:=by
 cases d with
 |none=>rfl
 |some t=>
  simp only[putD]
  exact WJ env v fun e=>h t rfl (by subst e;simp [LInstr.looks,hg])
theorem Ps {i:LInstr}{d:Option Nat}(h:∀t,d=some t→t∉i.looks)(env:Qn)(v:AV)(A:Q2):V2 G i (putD env d v) A=V2 G i env A:=by
 unfold V2
 cases hg:i.guard with
 |none=>simp only;exact Id (O1 h env v)
 |some p=>
  obtain⟨j,want⟩:=p
  simp only
  rw[Lt h env v hg,Id (O1 h env v)]
theorem Mt (env:Qn){x y:Option Nat}(v u:AV)(h:∀d,x=some d→y≠some d):putD (putD env x v) y u=putD (putD env y u) x v:=by
 cases x with
 |none=>rfl
 |some d=>
  cases y with
  |none=>rfl
  |some e=>
   have hne:d≠e:=fun he=>h d rfl (he▸rfl)
   funext t
   simp only[putD,Qn.put]
   by_cases h1:t=e <;> by_cases h2:t=d <;> simp_all
theorem K8 {x y:LInstr}(h:x.apart y=true):(∀d,x.dst=some d→d∉y.looks)∧(∀d,x.dst=some d→y.dst≠some d)∧(∀d,y.dst=some d→d∉x.looks):=by
 refine⟨fun d hd=> ?_,fun d hd=> ?_,fun d hd=> ?_⟩ <;> simp [LInstr.apart,hd]at h
 ·exact h.1.1
 ·exact h.1.2
 ·exact h.2
theorem Pm {i j:LInstr}(hap:i.apart j=true){v:AV}{env:Qn}{ds:List QV}{A:Q2}{K K':KS}{X:XS}(h:YD P G j (putD env i.dst v) ds A K' X)
 (hk:∀u ds' A',(j.op.isV=true→A'=A)→K' (putD (putD env j.dst u) i.dst v) ds' A'→K (putD env j.dst u) ds' A'):YD P G j env ds A K X:=by
 obtain⟨h1,h2,h3⟩:=K8 hap
 have hop:Vv P G j.op (putD env i.dst v) ds A (fun u ds A=>K' (putD (putD env i.dst v) j.dst u) ds A) X→Vv P G j.op env ds A (fun u ds A=>K (putD env j.dst u) ds A) X:=fun h=>by
  rw[NW (O1 h1 env v)]at h
  refine HL (fun u ds' A' hA hh=>hk u ds' A' (fun hv=>(hA hv).2) ?_) (fun _ _ h=>h) h
  rw[←Mt env v u h2]
  exact hh
 unfold YD at h⊢
 cases hg:j.guard with
 |none=>rw[hg]at h;exact hop h
 |some p=>
  obtain⟨g,want⟩:=p
  rw[hg]at h
  simp only at h⊢
  rw[Lt h1 env v hg]at h
  split at h
  ·exact hop h
  ·exact hk _ _ _ (fun _=>rfl) (by rw[←Mt env v J0 h2];exact h)
  ·exact h
theorem Ls {i:LInstr}(hv:i.op.isV=true){env:Qn}{ds:List QV}{A:Q2}{v:AV}(he:V2 G i env A=some v){K:KS}{X:XS}(h:K (putD env i.dst v) ds A):YD P G i env ds A K X:=by
 unfold V2 at he
 unfold YD
 cases hg:i.guard with
 |none=>
  rw[hg]at he
  simp only at he⊢
  rw[LP hv,he];exact h
 |some p=>
  obtain⟨j,want⟩:=p
  rw[hg]at he
  simp only at he⊢
  cases hw:UJ want (env j)with
  |none=>rw[hw]at he;simp at he
  |some t=>
   rw[hw]at he
   cases t with
   |true=>simp only at he⊢;rw[LP hv,he];exact h
   |false=>simp only[cA]at he;subst he;exact h
theorem Xx {i:LInstr}{env:Qn}{ds:List QV}{A:Q2}{K K':KS}{X:XS}(hk:∀env' ds' A',K env' ds' A'→K' env' ds' A')(h:YD P G i env ds A K X):YD P G i env ds A K' X:=by
 unfold YD at h⊢
 cases hg:i.guard with
 |none=>
  rw[hg]at h
  exact HL (fun v ds' A' _ h=>hk _ _ _ h) (fun _ _ h=>h) h
 |some p=>
  obtain⟨j,want⟩:=p
  rw[hg]at h
  simp only at h⊢
  split at h
  ·exact HL (fun v ds' A' _ h=>hk _ _ _ h) (fun _ _ h=>h) h
  ·exact hk _ _ _ h
  ·exact h
def Ky (ops:Array Oper)(listed:Array Bool):Prop:=∀k o,ops[k]? =some o→listed.getD k false=true→∀e∈o.after,Region.binds .any e=true→listed.getD e.on false=true
theorem I7 {ops:Array Oper}{listed:Array Bool}(hc:Ky ops listed):∀(f:Nat) (seen fr:List Nat),(∀k∈seen,listed.getD k false=true)→(∀k∈fr,listed.getD k false=true)→∀k∈Oq ops f seen fr,listed.getD k false=true
 |0,seen,fr,h1,_,k,hk=>h1 k hk
 |f+1,seen,[],h1,_,k,hk=>h1 k hk
 |f+1,seen,x::r,h1,h2,k,hk=>by
  simp only[Oq]at hk
  split at hk
  ·exact I7 hc f seen r h1 (fun y hy=>h2 y (dI _ hy)) k hk
  ·refine I7 hc f (x::seen) _ (fun y hy=> ?_) (fun y hy=> ?_) k hk
   ·rcases dT.1 hy with rfl|hy
    ·exact h2 _ (dO ..)
    ·exact h1 y hy
   ·rcases fW.1 hy with hy|hy
    ·unfold Wi at hy
     split at hy
     ·rename_i o ho
      obtain⟨e,he,rfl⟩:=List.mem_map.1 hy
      obtain⟨he1,he2⟩:=List.mem_filter.1 he
      exact hc x o ho (h2 x (dO ..)) e (by simpa using he1) he2
     ·simp at hy
    ·exact h2 y (dI _ hy)
theorem Nl {ops:Array Oper}{listed:Array Bool}(hc:Ky ops listed){j:Nat}(hj:j∈Region.ready .any ops listed):∀k∈Oi ops j,listed.getD k false=true:=by
 refine I7 hc _ _ _ (by simp) fun k hk=> ?_
 obtain⟨_,o,ho,hall⟩:=mem_ready.1 hj
 unfold Wi at hk
 rw[ho]at hk
 obtain⟨e,he,rfl⟩:=List.mem_map.1 hk
 obtain⟨he1,he2⟩:=List.mem_filter.1 he
 exact hall e (by simpa using he1) he2
theorem WH {ops:Array Oper}{listed:Array Bool}(hc:Ky ops listed){j:Nat}(hj:j∈Region.ready .any ops listed):Ky ops (listed.setIfInBounds j true):=by
 intro k o ho hk e he hb
 have hm:∀x,listed.getD x false=true→(listed.setIfInBounds j true).getD x false=true:=fun x hx=>getD_set_true hx
 by_cases hkj:j=k
 ·subst hkj
  obtain⟨_,o',ho',hall⟩:=mem_ready.1 hj
  rw[ho]at ho';simp only[cA]at ho';subst ho'
  exact hm _ (hall e he hb)
 ·rw[getD_set_ne false hkj]at hk
  exact hm _ (hc k o ho hk e he hb)
end
end Go.Ax
