/- Part 5 of the proof. -/
import Derived.Test.YtcbjbgaefighcaaGreatDoorT0
import Derived.Test.YtcbjbgaefighcaaGreatDoorT4
import Derived.WalkLawsBesides
import Derived.Orders
set_option linter.all false
namespace Go.Ax
open Go
def V7 (κ:Kn):List QU→List Deferred→Prop
 |[],l=>l=[]
 |(f,args)::r,l=>∃d ds',l=d::ds'∧(∃cap:Array Value,d.target=.fn (.func f) cap∧Qi κ args (d.args.toList++cap.toList))∧V7 κ r ds'
theorem V7.mono {κ κ':Kn}(hl:κ.le κ'):∀{ds:List QU} {l:List Deferred},V7 κ ds l→V7 κ' ds l
 |[],_,h=>by simpa[V7]using h
 |(f,args)::r,_,h=>by
  simp only[V7]at h⊢
  obtain⟨d,ds',h1,⟨cap,h2,h3⟩,h4⟩:=h
  exact⟨d,ds',h1,⟨cap,h2,Qi.mono hl _ _ h3⟩,V7.mono hl h4⟩
structure Sim (G:Nat→Option (List AV)) (κ:Kn) (env:Qo) (ds:List QU) (A:Q3) (a:Act) (w:World):Prop where
 rel:Rel G κ A w
 env:YX κ env a.tmps
 ds:V7 κ ds a.defers
section
variable {P:Program}{G:Nat→Option (List AV)}{κ:Kn}{A:Q3}{w:World}
theorem Zn (a:Act)(d:Option Nat)(u:Value):(a.put d u).tmps.size=a.tmps.size:=by
 cases d <;> simp [Act.put]
theorem Iw (a:Act)(d:Option Nat)(u:Value):(a.put d u).defers=a.defers:=by cases d <;> rfl
theorem YX.putD {env:Qo}{a:Act}(h:YX κ env a.tmps){d:Option Nat}(hd:KP a.tmps.size d=true){v:AV}{u:Value}(hv:Qc κ v u):YX κ (putD env d v) (a.put d u).tmps:=by
 cases d with
 |none=>exact h
 |some d=>exact h.put (by simpa[KP]using hd) hv
theorem Sim.step {env:Qo}{ds:List QU}{a:Act}(h:Sim G κ env ds A a w){κ':Kn}{A':Q3}{w':World}(hr:Rel G κ' A' w')(hl:κ.le κ'){d:Option Nat}(hd:KP a.tmps.size d=true){v:AV}{u:Value}(hv:Qc κ' v u):
 Sim G κ' (Ax.putD env d v) ds A' (a.put d u) w':=
 ⟨hr,(h.env.mono hl).putD hd hv,by rw[Iw];exact h.ds.mono hl⟩
theorem YN {o:Oper}{a:Act}{next:Act→World→Prop}{Q:Exit→Act→World→Prop}{u:Value}{w':World}(h:(execOp a.eval o).run P w=.ok (.value u) w')(hn:next (a.put o.dst u) w'):o.wp P a w next Q:=by
 unfold Oper.wp;rw[h];exact hn
theorem HB {o:Oper}{a:Act}{next:Act→World→Prop}{Q:Exit→Act→World→Prop}{w':World}(h:(execOp a.eval o).run P w=.ok .skip w')(hn:next (a.put o.dst undef) w'):o.wp P a w next Q:=by
 unfold Oper.wp;rw[h];exact hn
theorem Fh {e:TypeId}{z:Value}(hz:VF P e=some z)(w:World):(zeroValue e).run P w=.ok z w:=by
 unfold VF at hz
 cases hi:P.info? e with
 |none=>simp [hi]at hz
 |some inf=>simp [hi]at hz;simp [zeroValue,typeInfo,hi,hz]
theorem W3:Qc κ Ja undef:=Jy
theorem LP {id b e E off:Nat}(h:κ.s id=some (b,e,E)):Qc κ (.ptr id off) (.pointer (some ⟨b,off,none⟩)):=by simp only[Qc];exact⟨_,_,_,h,rfl⟩
theorem Dd {id b e E:Nat}(h:κ.s id=some (b,e,E)):Qc κ (.map id) (.map (some b)):=by simp only[Qc];exact⟨_,_,_,h,rfl⟩
theorem Mt (h:Rel G κ A w){env:Qo}{a:Act}(he:YX κ env a.tmps){first cap:List AV}{fa ca:Array Value}(h1:Qi κ first fa.toList)(h2:Qi κ cap ca.toList)(args:Array Operand):
 Qi κ (first++args.toList.map (Qs G env)++cap) ((fa++args.map a.eval)++ca).toList:=by
 have:=Qi.append (Qi.append h1 (IM h he args.toList)) h2
 simpa using this
set_option maxHeartbeats 1000000 in
theorem Gc {o:Oper}{lo:LOp}(hlo:Ou P o=some lo){env:Qo}{ds:List QU}{a:Act}(hdst:KP a.tmps.size o.dst=true)(hs:Sim G κ env ds A a w){K:KV}{X:XS}(h:VB P G lo env ds A K X)
 {next:Act→World→Prop}{Q:Exit→Act→World→Prop}
 (hK:∀κ' A' v ds' a' w',Sim G κ' (Ax.putD env o.dst v) ds' A' a' w'→Step κ A w κ' A' w'→a'.tmps.size=a.tmps.size→K v ds' A'→next a' w')
 (hX:∀κ' A' v u w',Rel G κ' A' w'→YX κ' env a.tmps→V7 κ' ds a.defers→Step κ A w κ' A' w'→Qc κ' v u→X ds v A'→Q (.panic [{v:=u,recovered:=false}]) a w'):o.wp P a w next Q:=by
 have hrel:=hs.rel
 have henv:=hs.env
 unfold Ou at hlo
 cases hv:Ot P o with
 |some lo'=>
  rw[hv]at hlo
  simp only[Option.some_or,cA]at hlo
  subst hlo
  have hgen:Yu (Qw G env A lo') (fun v=>K v ds A)→o.wp P a w next Q:=fun hk=>by
   cases he:Qw G env A lo' with
   |none=>rw[he]at hk;exact hk.elim
   |some v=>
    rw[he]at hk
    obtain⟨u,hu,hr⟩:=RP (P:=P) hrel henv hv he
    exact YN hu (hK _ _ _ _ _ _ (hs.step hrel (Kn.le_refl _) hdst hr) (Step.refl _ _ _) (Zn _ _ _) hk)
  refine hgen ?_
  unfold VB at h
  unfold Ot at hv
  (repeat' split at hv) <;> first
   |(simp only[cA,reduceCtorEq]at hv;subst hv;exact h)
   |(simp only[cG]at hv;obtain⟨_,_,rfl⟩:=hv;exact h)
   |(simp at hv;done)
   |(simp only[Option.bind_eq_bind,fN]at hv
     obtain⟨ps,_,hv⟩:=hv
     simp only[cA,reduceCtorEq]at hv;subst hv;exact h)
 |none=>
  rw[hv]at hlo
  simp only[Option.none_or]at hlo
  obtain⟨idst,op,ty,pos,aft,gd⟩:=o
  simp only at hlo hdst
  clear hv
  unfold Np at hlo
  split at hlo
  ·rename_i e heq
   simp only at heq;subst heq
   simp only[cG]at hlo
   obtain⟨z,hz,rfl⟩:=hlo
   simp only[VB]at h
   obtain⟨id,h1,h2,h5,h3,h4⟩:=hrel.newCells (arr:=z.cells) (el:=e) (Wm κ z.cells.toList)
   refine YN (u:=.pointer (some ⟨w.heap.size,0,none⟩)) (w':=w.alloc (.cells z.cells e)) ?_ (hK _ _ _ _ _ _ (hs.step (v:=.ptr id 0) h3 h4.le hdst ?_) h4 (Zn _ _ _) (h id h2 h5))
   ·simp [execOp,Instr.alloc,Fh hz,newVar,newRow]
   ·exact LP (Xn _ _ _)
  ·rename_i e x heq
   simp only at heq;subst heq
   simp only[cA]at hlo
   subst hlo
   simp only[VB]at h
   obtain⟨id,h1,h2,h5,h3,h4⟩:=hrel.newCells (arr:=(a.eval x).cells) (el:=e) (OJ (QI hrel henv x))
   refine YN (u:=.pointer (some ⟨w.heap.size,0,none⟩)) (w':=w.alloc (.cells (a.eval x).cells e)) ?_ (hK _ _ _ _ _ _ (hs.step (v:=.ptr id 0) h3 h4.le hdst ?_) h4 (Zn _ _ _) (h id h2))
   ·simp [execOp,Instr.box,newVar,newRow]
   ·exact LP (Xn _ _ _)
  ·rename_i t ad v heq
   simp only at heq;subst heq
   simp only[cG]at hlo
   obtain⟨inf,hinf,rfl⟩:=hlo
   simp only[VB]at h
   have had:=QI hrel henv ad
   have hvr:=OJ (QI hrel henv v)
   split at h
   ·rename_i id off hada
    rw[hada]at had
    simp only[Qc]at had
    obtain⟨b,e,E,hsid,had⟩:=had
    cases hob:A id with
    |none=>rw[hob]at h;exact h.elim
    |some ob=>
     rw[hob]at h
     cases ob with
     |cells cs=>
      simp only[Jp]at h
      obtain⟨g1,g2,g3,g4⟩:=h
      have hul:=hvr.length
      simp only[dR]at hul
      obtain⟨w',q1,q2,q3⟩:=LB (P:=P) b off _ _ 0 cs A w id e E hrel hvr (LT hvr g3) hob hsid (by omega)
      simp only[fS]at q2 q3
      refine HB (w':=w') ?_ (hK _ _ _ _ _ _ (hs.step q2 q3.le hdst W3) q3 (Zn _ _ _) g4)
      have hsz:¬(a.eval v).cells.size≠inf.size:=by omega
      simp [execOp,Instr.storeAt,Instr.sureAddr,had,storeVar,sizeOf,typeInfo,hinf,hsz,q1]
     |_=>exact h.elim
   ·exact h.elim
  ·rename_i t len parts heq
   simp only at heq;subst heq
   split at hlo
   ·rename_i e ht
    split at hlo
    ·rename_i inf z hi hz
     have key:∀(len':Nat) (pl:List (Nat×Operand)),len'=len→pl=parts.toList→((0<len*inf.size∧len*inf.size≤16777216)∨(len=0∧parts.toList=[]))→lo=.bslice e inf.size len' z.cells.toList pl→
      (⟨idst,.buildSlice t len parts,ty,pos,aft,gd⟩:Oper).wp P a w next Q:=fun len' pl e1 e2 hc e3=>by
      subst e1;subst e2;subst e3
      simp only[VB]at h
      cases hl:Xz inf.size len' z.cells.toList (parts.toList.map fun(i,x)=>(i,Qs G env x))with
      |none=>rw[hl]at h;exact h.elim
      |some cs=>
       rw[hl]at h
       simp only[Jp]at h
       obtain⟨κ',t',u,w',h1,h2,h3,h4,h5,h6⟩:=Rz (P:=P) hrel (t:=t) (len:=len') (parts:=parts.map fun(i,x)=>(i,a.eval x)) ht hi hz rfl
        (hc.elim .inl fun⟨q1,q2⟩=>.inr ⟨q1,by simpa using q2,by simp [q2]⟩) (by simp) (fun i p q hp hq=>by
         simp only[Array.toList_map,List.getElem?_map,cG]at hp hq
         obtain⟨x,x1,rfl⟩:=hp
         obtain⟨y,y1,rfl⟩:=hq
         rw[x1]at y1;simp only[cA]at y1;subst y1
         exact⟨rfl,QI hrel henv _⟩) hl
       exact YN (u:=u) (w':=w') (by simp [execOp,h1]) (hK _ _ _ _ _ _ (hs.step h4 h5.le hdst h6) h5 (Zn _ _ _) (h t' h3))
     split at hlo
     ·rename_i hc
      simp only[cA]at hlo
      exact key _ _ rfl rfl (.inl ⟨hc.1,hc.2.1⟩) hlo.symm
     ·split at hlo
      ·rename_i hc
       simp only[cA]at hlo
       exact key 0 [] hc.1.symm hc.2.symm (.inr hc) hlo.symm
      ·simp at hlo
    ·simp at hlo
   ·simp at hlo
  ·rename_i s d x heq
   simp only at heq;subst heq
   split at hlo
   ·rename_i e hs1 Zf
    split at hlo
    ·rename_i he1
     simp only[cA]at hlo
     subst hlo
     simp only[VB]at h
     have hx:=QI hrel henv x
     split at h
     ·rename_i l hxa
      rw[hxa]at hx
      simp only[Qc]at hx
      obtain⟨κ',u,w',h1,h2,h3,h4⟩:=NT (P:=P) hrel (l:=l) hs1 Zf he1
      exact YN (u:=u) (w':=w') (by simp [execOp,hx,h1]) (hK _ _ _ _ _ _ (hs.step h2 h3.le hdst h4) h3 (Zn _ _ _) h)
     ·exact h.elim
    ·simp at hlo
   ·simp at hlo
  ·rename_i args tys heq
   simp only at heq;subst heq
   split at hlo
   ·rename_i s x t tx ha1 ht1
    split at hlo
    ·simp at hlo
    ·rename_i e d hnt ht2 hd2
     split at hlo
     ·rename_i inf hi
      split at hlo
      ·rename_i z hz
       split at hlo
       ·rename_i hc
        simp only[cA]at hlo
        subst hlo
        simp only[VB]at h
        have ea:args=#[s,x]:=by apply dN.1;simpa using ha1
        have et:tys=#[t,tx]:=by apply dN.1;simpa using ht1
        subst ea;subst et
        obtain⟨κ',A',v,u,w',h1,h2,h3,h4,h5⟩:=RA (P:=P) hrel (ty:=ty) ht2 hi hd2 hnt hz hc.2 hc.1 (QI hrel henv s) (QI hrel henv x) h
        exact YN (u:=u) (w':=w') (by simp [execOp,resolve,invoke,builtin,h1]) (hK _ _ _ _ _ _ (hs.step h2 h3.le hdst h4) h3 (Zn _ _ _) h5)
       ·simp at hlo
      ·simp at hlo
     ·simp at hlo
    ·simp at hlo
   ·simp at hlo
  ·rename_i f args tys heq
   simp only at heq;subst heq
   simp only[cA]at hlo
   subst hlo
   simp only[VB]at h
   have hf:=QI hrel henv f
   split at h
   ·rename_i fid first cap hfa
    rw[hfa]at hf
    simp only[Qc]at hf
    obtain⟨fa,ca,hf,hfr,hcr⟩:=hf
    obtain⟨hg,hcall⟩:=h
    have:=hcall κ w hrel ((fa++args.map a.eval)++ca) (Mt hrel henv hfr hcr args)
    have hrun:(execOp a.eval ⟨idst,.call {callee:=.value f,args:=args,argTypes:=tys},ty,pos,aft,gd⟩).run P w=.ok (.enter fid ((fa++args.map a.eval)++ca)) w:=by
     unfold WJ at hg
     split at hg
     ·rename_i fn hfn
      simp only[cD,bne_iff_ne]at hg
      obtain⟨bd,hbd⟩:=fU.1 hg.1
      simp [execOp,resolve,hf,Deferred.ofValue,invoke,callFunc,hfn,hg.2,hbd]
     ·simp at hg
    unfold Oper.wp
    rw[hrun]
    refine Calls.mono this fun e w' ⟨κ',A',o,r1,r2,r3,r4⟩=> ?_
    cases o with
    |ret v=>
     obtain⟨u,rfl,hu⟩:=r3
     exact hK _ _ _ _ _ _ (hs.step r1 r2.le hdst hu) r2 (Zn _ _ _) r4
    |pan v=>
     obtain⟨u,rfl,hu⟩:=r3
     exact hX _ _ _ _ _ r1 (henv.mono r2.le) (hs.ds.mono r2.le) r2 hu r4
   ·exact h.elim
  ·rename_i f args tys heq
   simp only at heq;subst heq
   simp only[cA]at hlo
   subst hlo
   simp only[VB]at h
   have hf:=QI hrel henv f
   split at h
   ·rename_i fid first cap hfa
    rw[hfa]at hf
    simp only[Qc]at hf
    obtain⟨fa,ca,hf,hfr,hcr⟩:=hf
    have hrun:(execOp a.eval ⟨idst,.defer {callee:=.value f,args:=args,argTypes:=tys},ty,pos,aft,gd⟩).run P w=.ok (.defer {target:=.fn (.func fid) ca,args:=fa++args.map a.eval}) w:=by
     simp [execOp,resolve,hf,Deferred.ofValue]
    unfold Oper.wp
    rw[hrun]
    refine hK _ _ _ _ _ _ ⟨hrel,YX.putD (a:={a with defers:={target:=.fn (.func fid) ca,args:=fa++args.map a.eval}::a.defers}) henv hdst W3,?_⟩ (Step.refl _ _ _) (Zn _ _ _) h
    rw[Iw]
    simp only[V7]
    exact⟨_,_,rfl,⟨ca,rfl,by simpa using Mt hrel henv hfr hcr args⟩,hs.ds⟩
   ·exact h.elim
  ·rename_i x heq
   simp only at heq;subst heq
   simp only[cA]at hlo
   subst hlo
   simp only[VB]at h
   have hx:=QI hrel henv x
   split at h
   ·rename_i t v hxa
    rw[hxa]at hx
    have hx0:=hx
    simp only[Qc]at hx
    obtain⟨y,hx,hy⟩:=hx
    unfold Oper.wp
    have hrun:(execOp a.eval ⟨idst,.panic x,ty,pos,aft,gd⟩).run P w=.halt (.panic (.iface t y)) w:=by
     simp [execOp,Instr.panic,hx,goPanic]
    rw[hrun]
    exact hX _ _ _ _ _ hrel henv hs.ds (Step.refl _ _ _) (hx▸hx0) h
   ·exact h.elim
  ·rename_i t heq
   simp only at heq;subst heq
   simp only[cA]at hlo
   subst hlo
   simp only[VB]at h
   obtain⟨id,h1,h2,h3,h4⟩:=hrel.newMap
   refine YN (u:=.map (some w.heap.size)) (w':=w.alloc (.map #[] 0)) ?_ (hK _ _ _ _ _ _ (hs.step (v:=.map id) h3 h4.le hdst ?_) h4 (Zn _ _ _) (h id h2 (hrel.no_mit h1)))
   ·simp [execOp,Instr.makeMap]
   ·exact Dd (Xn _ _ _)
  ·rename_i t m k v heq
   simp only at heq;subst heq
   split at hlo
   ·rename_i kt vt ht
    split at hlo
    ·rename_i fk hfk
     simp only[cA]at hlo
     subst hlo
     simp only[VB]at h
     split at h
     ·rename_i id hma
      have hm:=QI hrel henv m
      rw[hma]at hm
      cases hob:A id with
      |none=>rw[hob]at h;exact h.elim
      |some ob=>
       rw[hob]at h
       cases ob with
       |mp es=>
        simp only[Jp]at h
        obtain⟨g1,g2⟩:=h
        cases he:Oh fk (Qs G env k) (Qs G env v) es with
        |none=>rw[he]at g2;exact g2.elim
        |some es'=>
         rw[he]at g2
         obtain⟨w',q1,q2,q3⟩:=Ll (P:=P) hrel ht hfk hob hm (QI hrel henv k) (QI hrel henv v) g1 he
         refine HB (w':=w') ?_ (hK _ _ _ _ _ _ (hs.step q2 q3.le hdst W3) q3 (Zn _ _ _) g2)
         simp [execOp,q1]
       |_=>exact h.elim
     ·exact h.elim
    ·simp at hlo
   ·simp at hlo
  ·rename_i t m k v heq
   simp only at heq;subst heq
   split at hlo
   ·rename_i kt vt ht
    split at hlo
    ·rename_i fk hfk
     simp only[cA]at hlo
     subst hlo
     simp only[VB]at h
     split at h
     ·rename_i id hma
      have hm:=QI hrel henv m
      rw[hma]at hm
      cases hob:A id with
      |none=>rw[hob]at h;exact h.elim
      |some ob=>
       rw[hob]at h
       cases ob with
       |mp es=>
        simp only[Jp]at h
        obtain⟨g1,g2⟩:=h
        cases he:Oh fk (Qs G env k) (Qs G env v) es with
        |none=>rw[he]at g2;exact g2.elim
        |some es'=>
         rw[he]at g2
         obtain⟨w',q1,q2,q3⟩:=Ll (P:=P) hrel ht hfk hob hm (QI hrel henv k) (QI hrel henv v) g1 he
         refine HB (w':=w') ?_ (hK _ _ _ _ _ _ (hs.step q2 q3.le hdst W3) q3 (Zn _ _ _) g2)
         simp [execOp,q1]
       |_=>exact h.elim
     ·exact h.elim
    ·simp at hlo
   ·simp at hlo
  ·rename_i t x heq
   simp only at heq;subst heq
   split at hlo
   ·rename_i kt vt ht
    simp only[cA]at hlo
    subst hlo
    simp only[VB]at h
    have hx:=QI hrel henv x
    split at h
    ·rename_i hxa
     rw[hxa]at hx
     simp only[Qc]at hx
     obtain⟨id,w',r,h1,h2,h3,h4,h5,h6⟩:=NY (P:=P) hrel ht
     exact YN (u:=r) (w':=w') (by simp [execOp,hx,h3]) (hK _ _ _ _ _ _ (hs.step h4 h5.le hdst h6) h5 (Zn _ _ _) (h id h2))
    ·rename_i m hxa
     rw[hxa]at hx
     cases hob:A m with
     |none=>rw[hob]at h;exact h.elim
     |some ob=>
      rw[hob]at h
      cases ob with
      |mp es=>
       simp only[Jp]at h
       obtain⟨id,w',r,h1,h2,h3,h4,h5,h6⟩:=RE (P:=P) hrel ht hob hx
       exact YN (u:=r) (w':=w') (by simp [execOp,h3]) (hK _ _ _ _ _ _ (hs.step h4 h5.le hdst h6) h5 (Zn _ _ _) (h id h2))
      |_=>exact h.elim
    ·exact h.elim
   ·simp at hlo
  ·rename_i x heq
   simp only at heq;subst heq
   simp only[cA]at hlo
   subst hlo
   simp only[VB]at h
   have hx:=QI hrel henv x
   split at h
   ·rename_i id hxa
    rw[hxa]at hx
    cases hob:A id with
    |none=>rw[hob]at h;exact h.elim
    |some ob=>
     rw[hob]at h
     cases ob with
     |mit m left last=>
      simp only[Jp]at h
      obtain⟨g1,g2⟩:=h
      have hff:Qc κ (.tuple [.raw (.bool false)]) (.tuple #[.bool false]):=by simp only[Qc];exact⟨_,rfl,by simp [Qi,Qc]⟩
      cases m with
      |none=>
       obtain⟨q1,q2⟩:=FY (P:=P) (ty:=ty) hrel hob hx
       exact YN (u:=.tuple #[.bool false]) (w':=w) (by simp [execOp,q2]) (hK _ _ _ _ _ _ (hs.step hrel (Kn.le_refl _) hdst hff) (Step.refl _ _ _) (Zn _ _ _) (g1 q1))
      |some m=>
       rcases Pv (P:=P) (ty:=ty) hrel hob hx with⟨q1,q2⟩|⟨j,k,v,uk,uv,w',q1,q2,q3,q4,q5,q6⟩
       ·exact YN (u:=.tuple #[.bool false]) (w':=w) (by simp [execOp,q2]) (hK _ _ _ _ _ _ (hs.step hrel (Kn.le_refl _) hdst hff) (Step.refl _ _ _) (Zn _ _ _) (g1 q1))
       ·refine YN (u:=.tuple #[.bool true,uk,uv]) (w':=w') (by simp [execOp,q2]) (hK _ _ _ _ _ _ (hs.step q5 q6.le hdst ?_) q6 (Zn _ _ _) (g2 j k v q1))
        simp only[Qc]
        exact⟨_,rfl,by simp only[Qi];exact⟨_,_,rfl,Jy,_,_,rfl,q3,_,_,rfl,q4,rfl⟩⟩
     |_=>exact h.elim
   ·exact h.elim
  ·rename_i x heq
   simp only at heq;subst heq
   simp only[cA]at hlo
   subst hlo
   simp only[VB]at h
   have hx:=QI hrel henv x
   split at h
   ·rename_i id hxa
    rw[hxa]at hx
    cases hob:A id with
    |none=>rw[hob]at h;exact h.elim
    |some ob=>
     rw[hob]at h
     simp only[Jp]at h
     split at h
     ·rename_i m left k v
      obtain⟨uk,uv,q1,q2,q3⟩:=RQ (P:=P) hrel hob hx
      refine YN (u:=.tuple #[uk,uv]) (w':=w) (by simp [execOp,q1]) (hK _ _ _ _ _ _ (hs.step hrel (Kn.le_refl _) hdst ?_) (Step.refl _ _ _) (Zn _ _ _) h)
      simp only[Qc]
      exact⟨_,rfl,by simp only[Qi];exact⟨_,_,rfl,q2,_,_,rfl,q3,rfl⟩⟩
     ·exact h.elim
   ·exact h.elim
  ·simp at hlo
end
def SX:Option Operand→List Operand
 |some x=>[x]
 |none=>[]
def LOp.opnds:LOp→List Operand
 | .mv x| .nchk x| .un _ x| .conv _ x| .same x| .b2s x| .fld _ x| .field _ _ _ x| .load _ _ x| .ext x _| .mkI _ x| .lenOf _ x| .tas _ _ x| .box _ x| .s2b _ x| .pan x| .rng x| .nxt x| .ent x=>[x]
 | .pick c a b=>[c,a,b]
 | .bin _ _ x y| .idxP _ _ x y| .idxS _ x y| .idxV _ _ _ x y| .idxStr x y| .mm _ x y| .look _ _ _ x y| .store _ x y| .app _ _ _ x y=>[x,y]
 | .build _ ps=>ps.map fun p=>p.2.2
 | .mkF _ f c=>f++c
 | .slStr x lo hi| .slSl _ x lo hi=>x::(SX lo++SX hi)
 | .alloc .. | .mkMap=>[]
 | .bslice _ _ _ _ ps=>ps.map fun p=>p.2
 | .call f args| .dfr f args=>f::args
 | .mset _ k v m=>[k,v,m]
def LOp.isV:LOp→Bool
 | .alloc .. | .mkMap| .bslice .. | .call .. | .dfr .. | .mset .. | .box .. | .s2b .. | .pan .. | .rng .. | .nxt .. | .ent .. | .store .. | .app .. =>false
 |_=>true
def LOp.rd:LOp→Bool
 | .load .. | .look .. | .lenOf .map _=>true
 |_=>false
def N7 (l:List Operand):List Nat:=l.filterMap fun| .tmp t=>some t|_=>none
def LInstr.looks (i:LInstr):List Nat:=
 N7 i.op.opnds++(match i.guard with
  |some (j,_)=>[j]
  |none=>[])
def LInstr.apart (x y:LInstr):Bool:=
 (match x.dst with
  |some d=> !(y.looks).contains d&&y.dst !=some d
  |none=>true)&&
 (match y.dst with
  |some d=> !(x.looks).contains d
  |none=>true)
section
variable (G:Nat→Option (List AV))
def V6 (i:LInstr)(env:Qo)(A:Q3):Option AV:=
 match i.guard with
 |none=>Qw G env A i.op
 |some (j,want)=>match UQ want (env j)with
  |some true=>Qw G env A i.op
  |some false=>some Ja
  |none=>none
end
inductive Sched where
 |done
 |nil
 |val (k:Nat) (rd:Bool) (i:LInstr) (rest:Sched)
 |eff (i:LInstr) (need:List Nat) (next other:Sched)
 deriving Inhabited
inductive LC where
 |skip
 |ops (l:List LInstr)
 |draw (s:Sched)
 |seq (a b:LC)
 |cond (x:Operand) (a b:LC)
 |block (id:Nat) (c:LC)
 |loop (c:LC)
 |exit (id:Nat)
 |ret
 deriving Inhabited
inductive LExit where
 |normal
 |exit (id:Nat)
 |ret
 deriving DecidableEq
abbrev QL:=LExit→Qo→List QU→Q3→Prop
abbrev U3:=List (Nat×(Q3→Prop))
def I4 (need:List Nat):U3→Q3→Prop
 |[],_=>True
 |(k,p)::r,A=>(if need.contains k then p A else True)∧I4 need r A
section
variable (P:Program)(G:Nat→Option (List AV))(rt:List Nat)
def WS:Sched→U3→Qo→List QU→Q3→KS→XE→Prop
 | .done,_,env,ds,A,K,_=>K env ds A
 | .nil,_,_,_,_,_,_=>True
 | .val k rd i rest,W,env,ds,A,K,X=>Yu (V6 G i env A) fun v=>WS rest (if rd then(k,fun A'=>V6 G i env A'=some v)::W else W) (putD env i.dst v) ds A K X
 | .eff i need next other,W,env,ds,A,K,X=>
  YJ P G i env ds A (fun env' ds' A'=>I4 need W A'∧WS next W env' ds' A' K X) (X (Yy rt env))∧WS other W env ds A K X
def HZ (next:KS)(Q:QL):QL
 | .normal=>next
 |e=>Q e
def OB (id:Nat)(Q:QL):QL
 | .exit j=>if j=id then Q .normal else Q (.exit j)
 |e=>Q e
def WL:LC→Qo→List QU→Q3→QL→XE→Prop
 | .skip,env,ds,A,Q,_=>Q .normal env ds A
 | .ops l,env,ds,A,Q,X=>YL P G rt l env ds A (Q .normal) X
 | .draw s,env,ds,A,Q,X=>WS P G rt s [] env ds A (Q .normal) X
 | .seq a b,env,ds,A,Q,X=>WL a env ds A (HZ (fun env ds A=>WL b env ds A Q X) Q) X
 | .cond x a b,env,ds,A,Q,X=>match Qs G env x with
  | .raw (.bool t)=>if t then WL a env ds A Q X else WL b env ds A Q X
  |_=>False
 | .block id c,env,ds,A,Q,X=>WL c env ds A (OB id Q) X
 | .loop c,env,ds,A,Q,X=>∃I:Nat→Qo→List QU→Q3→Prop,(∃n,I n env ds A)∧
  ∀n env ds A,I n env ds A→WL c env ds A (HZ (fun env ds A=>∃m,m<n∧I m env ds A) Q) X
 | .exit id,env,ds,A,Q,_=>Q (.exit id) env ds A
 | .ret,env,ds,A,Q,_=>Q .ret env ds A
end
def Ov (P:Program)(n:Nat)(ops:Array Oper)(o:Oper):Option LInstr:=
 if KP n o.dst then match Ou P o with
  |some lo=>match o.guard with
   |none=>some ⟨o.dst,lo,none⟩
   |some (j,want)=>match(ops[j]?).bind (·.dst)with
    |some t=>if t<n then some ⟨o.dst,lo,some (t,want)⟩else none
    |none=>none
  |none=>none
 else none
def Ui (P:Program)(n:Nat)(ops:Array Oper):List Oper→Option (List LInstr)
 |[]=>some []
 |o::r=>match Ov P n ops o,Ui P n ops r with
  |some i,some l=>some (i::l)
  |_,_=>none
def Wp (ops:Array Oper)(k:Nat):List Nat:=match ops[k]? with
 |some o=>(o.after.toList.filter (Region.binds .any)).map (·.on)
 |none=>[]
def Oo (ops:Array Oper):Nat→List Nat→List Nat→List Nat
 |0,seen,_=>seen
 |_+1,seen,[]=>seen
 |f+1,seen,k::r=>if seen.contains k then Oo ops f seen r else Oo ops f (k::seen) (Wp ops k++r)
def Of (ops:Array Oper)(j:Nat):List Nat:=Oo ops (ops.size*ops.size+ops.size) [] (Wp ops j)
def ED (ops:Array Oper)(L:List LInstr)(listed:Array Bool)(k:Nat):Bool:=
 match L[k]? with
 |none=>false
 |some i=>(List.range ops.size).all fun j=>j==k||listed.getD j true||match L[j]? with
  |some y=>i.apart y||(Of ops j).contains k
  |none=>true
def Le (rt:List Nat):Option Nat→Bool
 |some d=> !rt.contains d
 |none=>true
def T6 (ops:Array Oper)(L:List LInstr)(early:List Nat)(nx:Nat→Option Sched):List Nat→Option Sched
 |[]=>some .nil
 |j::r=>match L[j]? with
  |some i=>if i.op.isV then none else match nx j,T6 ops L early nx r with
   |some next,some other=>some (.eff i (early.filter fun k=> !(Of ops j).contains k) next other)
   |_,_=>none
  |none=>none
def Wx (rt:List Nat)(ops:Array Oper)(L:List LInstr):Nat→Array Bool→List Nat→Option Sched
 |0,listed,_=>if(Region.ready .any ops listed).isEmpty then some .done else none
 |f+1,listed,early=>
  match(Region.ready .any ops listed).find? (fun k=>match L[k]? with
   |some i=>i.op.isV&&Le rt i.dst&&ED ops L listed k
   |none=>false)with
  |some k=>match L[k]? with
   |some i=>(Wx rt ops L f (listed.setIfInBounds k true) (if i.op.rd then k::early else early)).map (.val k i.op.rd i)
   |none=>none
  |none=>match Region.ready .any ops listed with
   |[]=>some .done
   |rs=>T6 ops L early (fun j=>Wx rt ops L f (listed.setIfInBounds j true) early) rs
def Ye (P:Program)(n:Nat)(rt:List Nat):Code→Option LC
 | .skip=>some .skip
 | .region _ ops false=>(Ui P n ops ops.toList).map .ops
 | .region _ ops true=>match Ui P n ops ops.toList with
  |some L=>if P.follows .mixedOrders&&ops.toList.all (fun o=>o.after.all fun e=>decide (e.on<ops.size))then(Wx rt ops L ops.size (Array.replicate ops.size false) []).map .draw else none
  |none=>none
 | .seq a b=>match Ye P n rt a,Ye P n rt b with
  |some x,some y=>some (.seq x y)
  |_,_=>none
 | .cond c a b=>match Ye P n rt a,Ye P n rt b with
  |some x,some y=>some (.cond c x y)
  |_,_=>none
 | .block id c=>(Ye P n rt c).map (.block id)
 | .loop c=>(Ye P n rt c).map .loop
 | .exit id=>some (.exit id)
 | .ret=>some .ret
 |_=>none
section
variable {P:Program}{G:Nat→Option (List AV)}{rt:List Nat}
theorem FL {env:Qo}{d:Option Nat}{v:AV}{x:Operand}(h:∀t,d=some t→x≠ .tmp t):Qs G (putD env d v) x=Qs G env x:=by
 cases d with
 |none=>rfl
 |some t=>
  cases x with
  |tmp s=>
   have hne:s≠t:=fun e=>h t rfl (e▸rfl)
   simp only[Qs,putD]
   exact WP env v hne
  |_=>rfl
theorem Hc {env env':Qo}{l:List Operand}(h:∀x∈l,Qs G env x=Qs G env' x):l.map (Qs G env)=l.map (Qs G env'):=
 List.map_congr_left h
theorem IN {env env':Qo}{o:Option Operand}(h:∀x∈SX o,Qs G env x=Qs G env' x):o.map (Qs G env)=o.map (Qs G env'):=by
 cases o with
 |none=>rfl
 |some x=>simp only[cO];rw[h x (by simp [SX])]
theorem Ic {env env':Qo}{A:Q3}{lo:LOp}(h:∀x∈lo.opnds,Qs G env x=Qs G env' x):Qw G env A lo=Qw G env' A lo:=by
 cases lo <;> simp only[LOp.opnds,dT,dL,or_false,forall_eq_or_imp,forall_eq,fW]at h <;> simp only[Qw]
 case mv=>rw[h]
 case nchk=>rw[h]
 case pick=>rw[h.1,h.2.1,h.2.2]
 case bin=>rw[h.1,h.2]
 case un=>rw[h]
 case conv=>rw[h]
 case same=>rw[h]
 case b2s=>rw[h]
 case fld=>rw[h]
 case field=>rw[h]
 case idxP=>rw[h.1,h.2]
 case idxS=>rw[h.1,h.2]
 case idxV=>rw[h.1,h.2]
 case idxStr=>rw[h.1,h.2]
 case load=>rw[h]
 case ext=>rw[h]
 case build z ps=>
  have e:(ps.map fun(o,s,x)=>(o,s,Qs G env x))=ps.map fun(o,s,x)=>(o,s,Qs G env' x):=
   List.map_congr_left fun p hp=>by obtain⟨o,s,x⟩:=p;simp only[cW,true_and];exact h x (List.mem_map.2 ⟨_,hp,rfl⟩)
  rw[e]
 case mkI=>rw[h]
 case mkF=>rw[Hc fun x hx=>h x (.inl hx),Hc fun x hx=>h x (.inr hx)]
 case slStr=>rw[h.1,IN fun x hx=>h.2 x (.inl hx),IN fun x hx=>h.2 x (.inr hx)]
 case slSl=>rw[h.1,IN fun x hx=>h.2 x (.inl hx),IN fun x hx=>h.2 x (.inr hx)]
 case lenOf=>rw[h]
 case mm=>rw[h.1,h.2]
 case tas=>rw[h]
 case look=>rw[h.1,h.2]
theorem Ge {env env':Qo}{ds:List QU}{A:Q3}{lo:LOp}{K:KV}{X:XS}(h:∀x∈lo.opnds,Qs G env x=Qs G env' x):VB P G lo env ds A K X=VB P G lo env' ds A K X:=by
 have hv:=Ic (A:=A) h
 cases lo <;> simp only[LOp.opnds,dT,dL,or_false,forall_eq_or_imp,forall_eq,fW]at h <;> simp only[VB,hv]
 case box=>rw[h]
 case store=>rw[h.1,h.2]
 case bslice e sz len z ps=>
  have e:(ps.map fun(i,x)=>(i,Qs G env x))=ps.map fun(i,x)=>(i,Qs G env' x):=
   List.map_congr_left fun p hp=>by obtain⟨o,x⟩:=p;simp only[cW,true_and];exact h x (List.mem_map.2 ⟨_,hp,rfl⟩)
  rw[e]
 case s2b=>rw[h]
 case app=>rw[h.1,h.2]
 case call=>rw[h.1,Hc fun x hx=>h.2 x hx]
 case dfr=>rw[h.1,Hc fun x hx=>h.2 x hx]
 case pan=>rw[h]
 case mset=>rw[h.1,h.2.1,h.2.2]
 case rng=>rw[h]
 case nxt=>rw[h]
 case ent=>rw[h]
theorem Vt {α:Type}{o:Option α}{K K':α→Prop}(hk:∀v,o=some v→K v→K' v)(h:Yu o K):Yu o K':=by
 cases o with
 |none=>exact h
 |some v=>exact hk v rfl h
theorem HL {env:Qo}{ds:List QU}{A:Q3}{lo:LOp}{K K':KV}{X X':XS}(hk:∀v ds' A',(lo.isV=true→ds'=ds∧A'=A)→K v ds' A'→K' v ds' A')(hx:∀v A',X ds v A'→X' ds v A')(h:VB P G lo env ds A K X):VB P G lo env ds A K' X':=by
 have hv:∀lo':LOp,lo'=lo→Yu (Qw G env A lo') (fun v=>K v ds A)→Yu (Qw G env A lo') (fun v=>K' v ds A):=fun lo' _=>Vt fun v _=>hk v ds A fun _=>⟨rfl,rfl⟩
 cases lo <;> simp only[VB]at h⊢
 case alloc=>exact fun id hid he=>hk _ _ _ (by simp [LOp.isV]) (h id hid he)
 case box=>exact fun id hid=>hk _ _ _ (by simp [LOp.isV]) (h id hid)
 case store=>
  split at h
  ·revert h
   refine Vt fun ob _ h=> ?_
   split at h
   ·exact⟨h.1,h.2.1,h.2.2.1,hk _ _ _ (by simp [LOp.isV]) h.2.2.2⟩
   ·exact h
  ·exact h
 case bslice=>exact Vt (fun cs _ h t ht=>hk _ _ _ (by simp [LOp.isV]) (h t ht)) h
 case s2b=>
  split at h
  ·exact hk _ _ _ (by simp [LOp.isV]) h
  ·exact h
 case app=>
  unfold LH at h⊢
  revert h
  refine Vt fun p _ h=> ?_
  obtain⟨m,cs⟩:=p
  simp only at h⊢
  split at h
  ·split at h
   ·rename_i hm;rw[fC hm];exact hk _ _ _ (by simp [LOp.isV]) h
   ·rename_i hm;rw[fD hm];exact⟨h.1,fun t ht he=>hk _ _ _ (by simp [LOp.isV]) (h.2 t ht he)⟩
  ·exact⟨h.1,h.2.1,h.2.2.1,h.2.2.2.1,fun t ht he=>hk _ _ _ (by simp [LOp.isV]) (h.2.2.2.2 t ht he)⟩
  ·exact h
 case call=>
  split at h
  ·refine h.mono fun o A' h=> ?_
   cases o with
   |ret v=>exact hk _ _ _ (by simp [LOp.isV]) h
   |pan v=>exact hx _ _ h
  ·exact h
 case dfr=>
  split at h
  ·exact hk _ _ _ (by simp [LOp.isV]) h
  ·exact h
 case pan=>
  split at h
  ·exact hx _ _ h
  ·exact h
 case mkMap=>exact fun id hid hm=>hk _ _ _ (by simp [LOp.isV]) (h id hid hm)
 case mset=>
  split at h
  ·revert h
   refine Vt fun ob _ h=> ?_
   split at h
   ·exact⟨h.1,Vt (fun es _ h=>hk _ _ _ (by simp [LOp.isV]) h) h.2⟩
   ·exact h
  ·exact h
 case rng=>
  split at h
  ·exact fun id hid=>hk _ _ _ (by simp [LOp.isV]) (h id hid)
  ·revert h
   refine Vt fun ob _ h=> ?_
   split at h
   ·exact fun id hid=>hk _ _ _ (by simp [LOp.isV]) (h id hid)
   ·exact h
  ·exact h
 case nxt=>
  split at h
  ·revert h
   refine Vt fun ob _ h=> ?_
   split at h
   ·exact⟨fun e=>hk _ _ _ (by simp [LOp.isV]) (h.1 e),fun j k v e=>hk _ _ _ (by simp [LOp.isV]) (h.2 j k v e)⟩
   ·exact h
  ·exact h
 case ent=>
  split at h
  ·revert h
   refine Vt fun ob _ h=> ?_
   split at h
   ·exact hk _ _ _ (by simp [LOp.isV]) h
   ·exact h
  ·exact h
 all_goals exact hv _ rfl h
theorem LR {env:Qo}{ds:List QU}{A:Q3}{lo:LOp}{K:KV}{X:XS}(hv:lo.isV=true):VB P G lo env ds A K X=Yu (Qw G env A lo) fun v=>K v ds A:=by
 cases lo <;> simp [LOp.isV]at hv <;> rfl
theorem Pw {l:List Operand}{t:Nat}(h: .tmp t∈l):t∈N7 l:=List.mem_filterMap.2 ⟨_,h,rfl⟩
theorem IX {i:LInstr}{d:Option Nat}(h:∀t,d=some t→t∉i.looks)(env:Qo)(v:AV):∀x∈i.op.opnds,Qs G (putD env d v) x=Qs G env x:=fun x hx=>
 FL fun t ht e=>h t ht (List.mem_append_left _ (Pw (e▸hx)))
theorem Lr {i:LInstr}{d:Option Nat}(h:∀t,d=some t→t∉i.looks)(env:Qo)(v:AV){j:Nat}{want:Bool}(hg:i.guard=some (j,want)):putD env d v j=env j:=by
 cases d with
 |none=>rfl
 |some t=>
  simp only[putD]
  exact WP env v fun e=>h t rfl (by subst e;simp [LInstr.looks,hg])
theorem PH {i:LInstr}{d:Option Nat}(h:∀t,d=some t→t∉i.looks)(env:Qo)(v:AV)(A:Q3):V6 G i (putD env d v) A=V6 G i env A:=by
 unfold V6
 cases hg:i.guard with
 |none=>simp only;exact Ic (IX h env v)
 |some p=>
  obtain⟨j,want⟩:=p
  simp only
  rw[Lr h env v hg,Ic (IX h env v)]
theorem Mw (env:Qo){x y:Option Nat}(v u:AV)(h:∀d,x=some d→y≠some d):putD (putD env x v) y u=putD (putD env y u) x v:=by
 cases x with
 |none=>rfl
 |some d=>
  cases y with
  |none=>rfl
  |some e=>
   have hne:d≠e:=fun he=>h d rfl (he▸rfl)
   funext t
   simp only[putD,Qo.put]
   by_cases h1:t=e <;> by_cases h2:t=d <;> simp_all
theorem Kd {x y:LInstr}(h:x.apart y=true):(∀d,x.dst=some d→d∉y.looks)∧(∀d,x.dst=some d→y.dst≠some d)∧(∀d,y.dst=some d→d∉x.looks):=by
 refine⟨fun d hd=> ?_,fun d hd=> ?_,fun d hd=> ?_⟩ <;> simp [LInstr.apart,hd]at h
 ·exact h.1.1
 ·exact h.1.2
 ·exact h.2
theorem PA {i j:LInstr}(hap:i.apart j=true){v:AV}{env:Qo}{ds:List QU}{A:Q3}{K K':KS}{X:XS}(h:YJ P G j (putD env i.dst v) ds A K' X)
 (hk:∀u ds' A',(j.op.isV=true→A'=A)→K' (putD (putD env j.dst u) i.dst v) ds' A'→K (putD env j.dst u) ds' A'):YJ P G j env ds A K X:=by
 obtain⟨h1,h2,h3⟩:=Kd hap
 have hop:VB P G j.op (putD env i.dst v) ds A (fun u ds A=>K' (putD (putD env i.dst v) j.dst u) ds A) X→VB P G j.op env ds A (fun u ds A=>K (putD env j.dst u) ds A) X:=fun h=>by
  rw[Ge (IX h1 env v)]at h
  refine HL (fun u ds' A' hA hh=>hk u ds' A' (fun hv=>(hA hv).2) ?_) (fun _ _ h=>h) h
  rw[←Mw env v u h2]
  exact hh
 unfold YJ at h⊢
 cases hg:j.guard with
 |none=>rw[hg]at h;exact hop h
 |some p=>
  obtain⟨g,want⟩:=p
  rw[hg]at h
  simp only at h⊢
  rw[Lr h1 env v hg]at h
  split at h
  ·exact hop h
  ·exact hk _ _ _ (fun _=>rfl) (by rw[←Mw env v Ja h2];exact h)
  ·exact h
theorem Lq {i:LInstr}(hv:i.op.isV=true){env:Qo}{ds:List QU}{A:Q3}{v:AV}(he:V6 G i env A=some v){K:KS}{X:XS}(h:K (putD env i.dst v) ds A):YJ P G i env ds A K X:=by
 unfold V6 at he
 unfold YJ
 cases hg:i.guard with
 |none=>
  rw[hg]at he
  simp only at he⊢
  rw[LR hv,he];exact h
 |some p=>
  obtain⟨j,want⟩:=p
  rw[hg]at he
  simp only at he⊢
  cases hw:UQ want (env j)with
  |none=>rw[hw]at he;simp at he
  |some t=>
   rw[hw]at he
   cases t with
   |true=>simp only at he⊢;rw[LR hv,he];exact h
   |false=>simp only[cA]at he;subst he;exact h
theorem XL {i:LInstr}{env:Qo}{ds:List QU}{A:Q3}{K K':KS}{X:XS}(hk:∀env' ds' A',K env' ds' A'→K' env' ds' A')(h:YJ P G i env ds A K X):YJ P G i env ds A K' X:=by
 unfold YJ at h⊢
 cases hg:i.guard with
 |none=>
  rw[hg]at h
  exact HL (fun v ds' A' _ h=>hk _ _ _ h) (fun _ _ h=>h) h
 |some p=>
  obtain⟨j,want⟩:=p
  rw[hg]at h
  simp only at h⊢
  split at h
  ·exact HL (fun v ds' A' _ h=>hk _ _ _ h) (fun _ _ h=>h) h
  ·exact hk _ _ _ h
  ·exact h
def Ky (ops:Array Oper)(listed:Array Bool):Prop:=∀k o,ops[k]? =some o→listed.getD k false=true→∀e∈o.after,Region.binds .any e=true→listed.getD e.on false=true
theorem I7 {ops:Array Oper}{listed:Array Bool}(hc:Ky ops listed):∀(f:Nat) (seen fr:List Nat),(∀k∈seen,listed.getD k false=true)→(∀k∈fr,listed.getD k false=true)→∀k∈Oo ops f seen fr,listed.getD k false=true
 |0,seen,fr,h1,_,k,hk=>h1 k hk
 |f+1,seen,[],h1,_,k,hk=>h1 k hk
 |f+1,seen,x::r,h1,h2,k,hk=>by
  simp only[Oo]at hk
  split at hk
  ·exact I7 hc f seen r h1 (fun y hy=>h2 y (dI _ hy)) k hk
  ·refine I7 hc f (x::seen) _ (fun y hy=> ?_) (fun y hy=> ?_) k hk
   ·rcases dT.1 hy with rfl|hy
    ·exact h2 _ (dO ..)
    ·exact h1 y hy
   ·rcases fW.1 hy with hy|hy
    ·unfold Wp at hy
     split at hy
     ·rename_i o ho
      obtain⟨e,he,rfl⟩:=List.mem_map.1 hy
      obtain⟨he1,he2⟩:=List.mem_filter.1 he
      exact hc x o ho (h2 x (dO ..)) e (by simpa using he1) he2
     ·simp at hy
    ·exact h2 y (dI _ hy)
theorem ND {ops:Array Oper}{listed:Array Bool}(hc:Ky ops listed){j:Nat}(hj:j∈Region.ready .any ops listed):∀k∈Of ops j,listed.getD k false=true:=by
 refine I7 hc _ _ _ (by simp) fun k hk=> ?_
 obtain⟨_,o,ho,hall⟩:=mem_ready.1 hj
 unfold Wp at hk
 rw[ho]at hk
 obtain⟨e,he,rfl⟩:=List.mem_map.1 hk
 obtain⟨he1,he2⟩:=List.mem_filter.1 he
 exact hall e (by simpa using he1) he2
theorem WN {ops:Array Oper}{listed:Array Bool}(hc:Ky ops listed){j:Nat}(hj:j∈Region.ready .any ops listed):Ky ops (listed.setIfInBounds j true):=by
 intro k o ho hk e he hb
 have hm:∀x,listed.getD x false=true→(listed.setIfInBounds j true).getD x false=true:=fun x hx=>getD_set_true hx
 by_cases hkj:j=k
 ·subst hkj
  obtain⟨_,o',ho',hall⟩:=mem_ready.1 hj
  rw[ho]at ho';simp only[cA]at ho';subst ho'
  exact hm _ (hall e he hb)
 ·rw[getD_set_ne false hkj]at hk
  exact hm _ (hc k o ho hk e he hb)
end
end Go.Ax
