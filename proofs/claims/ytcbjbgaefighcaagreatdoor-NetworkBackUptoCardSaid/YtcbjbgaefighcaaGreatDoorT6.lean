/- Part 6 of the proof. -/
import Derived.Test.YtcbjbgaefighcaaGreatDoorT0
import Derived.Test.YtcbjbgaefighcaaGreatDoorT5
import Derived.Recover
set_option linter.all false
namespace Go.Ax
open Go
section
variable (P:Program)(G:Nat→Option (List AV))(rt:List Nat)(ops:Array Oper)(L:List LInstr)
def I5:Nat→Array Bool→U3→Qo→List QU→Q3→KS→XE→Prop
 |0,listed,_,env,ds,A,K,_=>Region.ready .any ops listed=[]∧K env ds A
 |f+1,listed,W,env,ds,A,K,X=>(Region.ready .any ops listed=[]→K env ds A)∧
  ∀j∈Region.ready .any ops listed,∀i,L[j]? =some i→
   YJ P G i env ds A (fun env' ds' A'=>(i.op.isV=true∨∀c∈W,c.1∉Of ops j→c.2 A')∧I5 f (listed.setIfInBounds j true) W env' ds' A' K X) (X (Yy rt env))
end
section
variable {P:Program}{G:Nat→Option (List AV)}{rt:List Nat}{ops:Array Oper}{L:List LInstr}
theorem MN {K:KS}{X:XE}:∀(f:Nat) (listed:Array Bool) (W:U3) (c:Nat×(Q3→Prop)) (env:Qo) (ds:List QU) (A:Q3),I5 P G rt ops L f listed (c::W) env ds A K X→I5 P G rt ops L f listed W env ds A K X
 |0,_,_,_,_,_,_,h=>h
 |f+1,listed,W,c,env,ds,A,h=>⟨h.1,fun j hj i hi=>XL (fun env' ds' A' h=>⟨h.1.imp id fun h c' hc'=>h c' (dI _ hc'),MN f _ W c _ _ _ h.2⟩) (h.2 j hj i hi)⟩
theorem XA {listed:Array Bool}{j:Nat}(h:j∈Region.ready .any ops listed):listed.getD j true=false:=(mem_ready.1 h).1
theorem Py {env:Qo}{d:Option Nat}{v:AV}(h:Le rt d=true):Yy rt (putD env d v)=Yy rt env:=by
 cases d with
 |none=>rfl
 |some t=>
  funext s
  unfold Yy
  split
  ·rename_i hs
   simp only[putD]
   refine WP env v fun e=> ?_
   subst e
   simp [Le]at h
   exact h (by simpa using hs)
  ·rfl
theorem Lz {K:KS}{X:XE}{k:Nat}{i:LInstr}(hi:L[k]? =some i)(hv:i.op.isV=true)(hd:Le rt i.dst=true){v:AV}{S:Q3→Prop}:∀(f:Nat) (listed:Array Bool) (W:U3) (env:Qo) (ds:List QU) (A:Q3),
 Ky ops listed→(∀j y,L[j]? =some y→j<ops.size→j≠k→listed.getD j true=false→k∉Of ops j→i.apart y=true)→k∈Region.ready .any ops listed→S A→(∀A,S A→V6 G i env A=some v)→
 I5 P G rt ops L f (listed.setIfInBounds k true) ((k,S)::W) (putD env i.dst v) ds A K X→I5 P G rt ops L (f+1) listed W env ds A K X:=by
 intro f
 induction f with
 |zero=>
  intro listed W env ds A hc hap hr hS hev H
  refine⟨fun e=>(by rw[e]at hr;cases hr),fun j hj y hy=> ?_⟩
  by_cases hjk:j=k
  ·subst hjk
   rw[hi]at hy;simp only[cA]at hy;subst hy
   exact Lq hv (hev A hS) ⟨.inl hv,H⟩
  ·have:=ready_mono hj hjk
   rw[H.1]at this;cases this
 |succ f ih=>
  intro listed W env ds A hc hap hr hS hev H
  refine⟨fun e=>(by rw[e]at hr;cases hr),fun j hj y hy=> ?_⟩
  by_cases hjk:j=k
  ·subst hjk
   rw[hi]at hy;simp only[cA]at hy;subst hy
   exact Lq hv (hev A hS) ⟨.inl hv,MN _ _ _ _ _ _ _ H⟩
  ·have h1:=H.2 j (ready_mono hj hjk) y hy
   rw[Py hd]at h1
   have hku:k∉Of ops j:=fun hk=>by
    have q1:=ND hc hj k hk
    have q0:=XA hr
    rcases fH k listed.size with h'|h'
    ·simp [h']at q0 q1;rw[q0]at q1;cases q1
    ·simp [lD h']at q1
   have hjlt:j<ops.size:=by
    obtain⟨_,o,ho,_⟩:=mem_ready.1 hj
    exact(Array.getElem?_eq_some_iff.1 ho).1
   have hapj:=hap j y hy hjlt hjk (XA hj) hku
   obtain⟨a1,a2,a3⟩:=Kd hapj
   refine PA hapj h1 fun u ds' A' hA hh=>⟨?_,?_⟩
   ·exact hh.1.imp id fun hw c hc'=>hw c (dI _ hc')
   ·refine ih (listed.setIfInBounds j true) W (putD env y.dst u) ds' A' (WN hc hj) (fun j' y' hy' hlt' hne' hun' hu'=> ?_) (ready_mono hr (Ne.symm hjk)) ?_ (fun A'' hA''=>by rw[PH a3];exact hev A'' hA'') ?_
    ·refine hap j' y' hy' hlt' hne' ?_ hu'
     by_cases hjj:j=j'
     ·subst hjj;exact XA hj
     ·rw[getD_set_ne true hjj]at hun';exact hun'
    ·rcases hh.1 with hyv|hw
     ·rw[hA hyv];exact hS
     ·exact hw (k,S) (dO ..) hku
    ·rw[Array.setIfInBounds_comm _ _ hjk]
     exact hh.2
def WOk (W:U3)(early:List Nat):Prop:=W.map (·.1)=early
theorem MH {need:List Nat}:∀{W:U3} {A:Q3},I4 need W A→∀c∈W,c.1∈need→c.2 A
 |[],_,_,c,hc,_=>by cases hc
 |(k,p)::W,A,h,c,hc,hn=>by
  simp only[I4]at h
  rcases dT.1 hc with rfl|hc
  ·have:=h.1
   rw[fC (by simpa using hn)]at this
   exact this
  ·exact MH h.2 c hc hn
theorem MM {K:KS}{X:XE}:∀(f:Nat) (listed:Array Bool) (W:U3) (c:Nat×(Q3→Prop)) (_:∀A,c.2 A) (env:Qo) (ds:List QU) (A:Q3),I5 P G rt ops L f listed W env ds A K X→I5 P G rt ops L f listed (c::W) env ds A K X
 |0,_,_,_,_,_,_,_,h=>h
 |f+1,listed,W,c,hc,env,ds,A,h=>⟨h.1,fun j hj i hi=>XL (fun env' ds' A' h=>⟨h.1.imp id fun h c' hc' hu=>by
  rcases dT.1 hc' with rfl|hc'
  ·exact hc _
  ·exact h c' hc' hu,MM f _ W c hc _ _ _ h.2⟩) (h.2 j hj i hi)⟩
theorem Ee {i:LInstr}(hr:i.op.rd=false)(env:Qo)(A A':Q3):V6 G i env A=V6 G i env A':=by
 have:Qw G env A i.op=Qw G env A' i.op:=by
  cases ho:i.op <;> rw[ho]at hr <;> simp only[Qw]
  case load=>simp [LOp.rd]at hr
  case look=>simp [LOp.rd]at hr
  case lenOf k x=>
   have:∀x,Y4 A k x=Y4 A' k x:=fun x=>by cases k <;> simp [LOp.rd]at hr <;> rfl
   rw[this]
 unfold V6
 rw[this]
theorem MR {K:KS}{X:XE}:∀(f:Nat) (listed:Array Bool) (early:List Nat) (s:Sched),Wx rt ops L f listed early=some s→
 ∀(W:U3) (env:Qo) (ds:List QU) (A:Q3),Ky ops listed→WOk W early→WS P G rt s W env ds A K X→I5 P G rt ops L f listed W env ds A K X:=by
 intro f
 induction f with
 |zero=>
  intro listed early s hs W env ds A _ _ h
  simp only[Wx]at hs
  split at hs
  ·rename_i he
   simp only[cA]at hs;subst hs
   exact⟨by simpa using he,h⟩
  ·simp at hs
 |succ f ih=>
  intro listed early s hs W env ds A hc hW h
  simp only[Wx]at hs
  split at hs
  ·rename_i k hfind
   split at hs
   ·rename_i i hi
    simp only[cG]at hs
    obtain⟨rest,hrest,rfl⟩:=hs
    have hp:=List.find?_some hfind
    have hk:=List.mem_of_find?_eq_some hfind
    simp only[hi,cD]at hp
    obtain⟨⟨hv,hd⟩,hfree⟩:=hp
    simp only[WS]at h
    cases hev:V6 G i env A with
    |none=>rw[hev]at h;exact h.elim
    |some v=>
     rw[hev]at h
     simp only[Jp]at h
     have hfr:∀j y,L[j]? =some y→j<ops.size→j≠k→listed.getD j true=false→k∉Of ops j→i.apart y=true:=fun j y hy hlt hne hun hu=>by
      unfold ED at hfree
      rw[hi]at hfree
      simp only[cH,List.mem_range]at hfree
      have:=hfree j hlt
      simp only[hy,lA,beq_iff_eq,hne,hun,false_or,cB]at this
      rcases this with h|h
      ·exact h
      ·exact absurd (by simpa using h) hu
     cases hr:i.op.rd with
     |true=>
      rw[hr]at h hrest
      simp only[if_true]at h hrest
      exact Lz hi hv hd (v:=v) (S:=fun A'=>V6 G i env A'=some v) f listed W env ds A hc hfr hk hev (fun _ h=>h)
       (ih _ _ _ hrest _ _ _ _ (WN hc hk) (by simp only[WOk,cJ];rw[hW]) h)
     |false=>
      rw[hr]at h hrest
      simp only[cB,if_false]at h hrest
      have hq:=ih _ _ _ hrest _ _ _ _ (WN hc hk) hW h
      refine Lz hi hv hd (v:=v) (S:=fun _=>True) f listed W env ds A hc hfr hk trivial (fun A' _=>by rw[Ee hr env A' A];exact hev) ?_
      exact MM f _ W (k,fun _=>True) (fun _=>trivial) _ _ _ hq
   ·simp at hs
  ·split at hs
   ·rename_i hnil
    simp only[cA]at hs;subst hs
    exact⟨fun _=>h,by rw[hnil];simp⟩
   ·rename_i rs hne
    refine⟨fun e=>absurd e (by simpa using hne),?_⟩
    have key:∀(rs:List Nat) (s:Sched),T6 ops L early (fun j=>Wx rt ops L f (listed.setIfInBounds j true) early) rs=some s→(∀j∈rs,j∈Region.ready .any ops listed)→WS P G rt s W env ds A K X→∀j∈rs,∀i,L[j]? =some i→
     YJ P G i env ds A (fun env' ds' A'=>(i.op.isV=true∨∀c∈W,c.1∉Of ops j→c.2 A')∧I5 P G rt ops L f (listed.setIfInBounds j true) W env' ds' A' K X) (X (Yy rt env)):=by
     intro rs
     induction rs with
     |nil=>intro s _ _ _ j hj;cases hj
     |cons x r ihr=>
      intro s hs hall h j hj i hi
      simp only[T6]at hs
      split at hs
      ·rename_i y hy
       split at hs
       ·simp at hs
       ·split at hs
        ·rename_i next other hnext hother
         simp only[cA]at hs;subst hs
         simp only[WS]at h
         rcases dT.1 hj with rfl|hj
         ·rw[hy]at hi;simp only[cA]at hi;subst hi
          refine XL (fun env' ds' A' hh=>⟨.inr fun c hc' hcu=>MH hh.1 c hc' (List.mem_filter.2 ⟨?_,by simpa using hcu⟩),ih _ _ _ hnext _ _ _ _ (WN hc (hall _ (dO ..))) hW hh.2⟩) h.1
          rw[←hW]
          exact List.mem_map.2 ⟨c,hc',rfl⟩
         ·exact ihr other hother (fun z hz=>hall z (dI _ hz)) h.2 j hj i hi
        ·simp at hs
      ·simp at hs
    exact key _ s hs (fun _ h=>h) h
end
def LExit.up:LExit→Exit
 | .normal=>.normal
 | .exit id=>.exit id
 | .ret=>.ret
def IG (rt:List Nat)(κ:Kn)(env:Qo)(tmps:Array Value):Prop:=∀t∈rt,Qc κ (env t) (tmps.getD t undef)
structure Ends (G:Nat→Option (List AV)) (rt:List Nat) (n:Nat) (κ:Kn) (A:Q3) (w:World) (Q:QL) (X:XE) (Q':Exit→Act→World→Prop):Prop where
 q:∀e κ' A' env' ds' a' w',Sim G κ' env' ds' A' a' w'→Step κ A w κ' A' w'→a'.tmps.size=n→Q e env' ds' A'→Q' e.up a' w'
 x:∀κ' A' env' ds' v a' u w',Rel G κ' A' w'→IG rt κ' env' a'.tmps→V7 κ' ds' a'.defers→Step κ A w κ' A' w'→a'.tmps.size=n→Qc κ' v u→X env' ds' v A'→
  Q' (.panic [{v:=u,recovered:=false}]) a' w'
section
variable {P:Program}{G:Nat→Option (List AV)}{rt:List Nat}{n:Nat}
theorem Ends.shift {κ κ1:Kn}{A A1:Q3}{w w1:World}{Q:QL}{X:XE}{Q':Exit→Act→World→Prop}(h:Ends G rt n κ A w Q X Q')(s:Step κ A w κ1 A1 w1):Ends G rt n κ1 A1 w1 Q X Q':={
 q:=fun e κ' A' env' ds' a' w' h1 h2 h3 h4=>h.q e κ' A' env' ds' a' w' h1 (s.trans h2) h3 h4
 x:=fun κ' A' env' ds' v a' u w' h1 h2 h3 h4 h5 h6 h7=>h.x κ' A' env' ds' v a' u w' h1 h2 h3 (s.trans h4) h5 h6 h7}
theorem TT {κ:Kn}{env:Qo}{tmps:Array Value}(h:YX κ env tmps):IG rt κ (Yy rt env) tmps:=fun t ht=>by
 unfold Yy
 rw[fC (by simpa using ht)]
 exact h t
def asB:Value→Option Bool
 | .bool b=>some b
 |_=>none
theorem Pa {κ:Kn}{v:AV}{u:Value}{want:Bool}{t:Bool}(h:UQ want v=some t)(hr:Qc κ v u):(asB u==some want)=t:=by
 unfold UQ at h
 split at h
 ·rename_i b
  simp only[cA]at h;subst h
  simp only[Qc]at hr;subst hr
  cases b <;> cases want <;> rfl
 ·rename_i u' hn
  simp only[cA]at h;subst h
  simp only[Qc]at hr;subst hr
  cases u <;> first|rfl|(exact absurd rfl (hn _))
 ·simp at h
theorem RK {ops:Array Oper}{o:Oper}{i:LInstr}(h:Ov P n ops o=some i):KP n o.dst=true∧i.dst=o.dst∧Ou P o=some i.op∧
 ((o.guard=none∧i.guard=none)∨∃j want t,o.guard=some (j,want)∧i.guard=some (t,want)∧(ops[j]?).bind (·.dst)=some t∧t<n):=by
 unfold Ov at h
 split at h
 ·rename_i hd
  cases hl:Ou P o with
  |none=>rw[hl]at h;simp at h
  |some lo=>
   rw[hl]at h
   simp only at h
   split at h
   ·rename_i hg
    simp only[cA]at h;subst h
    exact⟨hd,rfl,rfl,.inl ⟨hg,rfl⟩⟩
   ·rename_i j want hg
    split at h
    ·rename_i t ht
     split at h
     ·rename_i htn
      simp only[cA]at h;subst h
      exact⟨hd,rfl,rfl,.inr ⟨j,want,t,hg,rfl,ht,htn⟩⟩
     ·simp at h
    ·simp at h
 ·simp at h
theorem Ib {ops:Array Oper}{o:Oper}{i:LInstr}(hl:Ov P n ops o=some i){κ:Kn}{env:Qo}{ds:List QU}{A:Q3}{a:Act}{w:World}(hs:Sim G κ env ds A a w)(hn:a.tmps.size=n){K:KS}{X:XS}(h:YJ P G i env ds A K X)
 {next:Act→World→Prop}{Q:Exit→Act→World→Prop}
 (hK:∀κ' A' env' ds' a' w',Sim G κ' env' ds' A' a' w'→Step κ A w κ' A' w'→a'.tmps.size=n→K env' ds' A'→next a' w')
 (hX:∀κ' A' v u w',Rel G κ' A' w'→YX κ' env a.tmps→V7 κ' ds a.defers→Step κ A w κ' A' w'→Qc κ' v u→X ds v A'→Q (.panic [{v:=u,recovered:=false}]) a w'):
 if Region.wanted o (yielded ops a.tmps)then o.wp P a w next Q∨(o.asks P a w∧LetsOut Q)else next (a.put o.dst undef) w:=by
 obtain⟨hd,hdst,hlo,hg⟩:=RK hl
 rw[←hn]at hd
 have hop:VB P G i.op env ds A (fun v ds A=>K (putD env i.dst v) ds A) X→o.wp P a w next Q:=fun h=>by
  refine Gc hlo hd hs h (fun κ' A' v ds' a' w' h1 h2 h3 h4=> ?_) hX
  rw[hdst]at h4
  exact hK _ _ _ _ _ _ h1 h2 (h3.trans hn) h4
 unfold YJ at h
 rcases hg with⟨g1,g2⟩|⟨j,want,t,g1,g2,g3,g4⟩
 ·rw[g2]at h
  rw[fC (by simp [Region.wanted,g1])]
  exact .inl (hop h)
 ·rw[g2]at h
  simp only at h
  have hw:∀b,UQ want (env t)=some b→Region.wanted o (yielded ops a.tmps)=b:=fun b hb=>by
   have hrep:=hs.env t
   have:=Pa hb hrep
   have hlt:t<a.tmps.size:=by omega
   simp only[Region.wanted,g1,yielded,g3,Option.bind_some]
   rw[←this]
   have e:a.tmps[t]? =some (a.tmps.getD t undef):=by simp [hlt]
   rw[e]
   generalize a.tmps.getD t undef=x
   cases x <;> rfl
  split at h
  ·rename_i hb
   rw[fC (hw _ hb)]
   exact .inl (hop h)
  ·rename_i hb
   rw[fD (by rw[hw _ hb];simp)]
   refine hK _ _ _ _ _ _ (hs.step (v:=Ja) hs.rel (Kn.le_refl _) hd W3) (Step.refl _ _ _) ((Zn _ _ _).trans hn) ?_
   rw[←hdst]
   exact h
  ·exact h.elim
theorem Uo {ops:Array Oper}:∀{l:List Oper} {L:List LInstr},Ui P n ops l=some L→L.length=l.length∧∀(j:Nat) (o:Oper),l[j]? =some o→∃i:LInstr,L[j]? =some i∧Ov P n ops o=some i
 |[],L,h=>by simp only[Ui,cA]at h;subst h;simp
 |o::r,L,h=>by
  simp only[Ui]at h
  split at h
  ·rename_i i l hi hr
   simp only[cA]at h;subst h
   obtain⟨h1,h2⟩:=Uo hr
   refine⟨by simp [h1],fun j y hy=> ?_⟩
   cases j with
   |zero=>simp at hy;subst hy;exact⟨i,rfl,hi⟩
   |succ j=>simpa using h2 j y (by simpa using hy)
  ·simp at h
theorem Rs {ops:Array Oper}{L:List LInstr}(hL:Ui P n ops ops.toList=some L){Q:QL}{X:XE}{Q':Exit→Act→World→Prop}:∀(m k:Nat) (κ:Kn) (env:Qo) (ds:List QU) (A:Q3) (a:Act) (w:World),k+m=ops.size→
 Sim G κ env ds A a w→a.tmps.size=n→YL P G rt (L.drop k) env ds A (Q .normal) X→Ends G rt n κ A w Q X Q'→wpOps P ops Q' (List.range' k m) a w:=by
 intro m
 induction m with
 |zero=>
  intro k κ env ds A a w hk hs hn h hE
  obtain⟨h1,_⟩:=Uo hL
  rw[List.drop_eq_nil_of_le (by rw[h1];simp;omega)]at h
  exact hE.q .normal κ A env ds a w hs (Step.refl _ _ _) hn h
 |succ m ih=>
  intro k κ env ds A a w hk hs hn h hE
  obtain⟨h1,h2⟩:=Uo hL
  have hlt:k<ops.size:=by omega
  have ho:ops[k]? =some ops[k]:=Array.getElem?_eq_getElem hlt
  obtain⟨i,hi,hli⟩:=h2 k ops[k] (by simpa using ho)
  have hdrop:L.drop k=i::L.drop (k+1):=by
   obtain⟨hlt',hget⟩:=fO.1 hi
   rw[dP hlt',hget]
  rw[hdrop]at h
  simp only[YL]at h
  rw[List.range'_succ]
  simp only[wpOps,ho]
  refine Ib hli hs hn h (fun κ' A' env' ds' a' w' q1 q2 q3 q4=>ih (k+1) κ' env' ds' A' a' w' (by omega) q1 q3 q4 (hE.shift q2)) (fun κ' A' v u w' q1 q2 q3 q4 q5 q6=> ?_)
  exact hE.x κ' A' (Yy rt env) ds v a u w' q1 (TT q2) q3 q4 hn q5 q6
theorem PU {ops:Array Oper}{L:List LInstr}(hL:Ui P n ops ops.toList=some L){Q:QL}{X:XE}{Q':Exit→Act→World→Prop}:∀(f:Nat) (listed:Array Bool) (W:U3) (κ:Kn) (env:Qo) (ds:List QU) (A:Q3) (a:Act) (w:World),
 Sim G κ env ds A a w→a.tmps.size=n→I5 P G rt ops L f listed W env ds A (Q .normal) X→Ends G rt n κ A w Q X Q'→wpAny P .any ops Q' f listed a w:=by
 intro f
 induction f with
 |zero=>intro listed W κ env ds A a w hs hn h hE;exact⟨h.1,hE.q .normal κ A env ds a w hs (Step.refl _ _ _) hn h.2⟩
 |succ f ih=>
  intro listed W κ env ds A a w hs hn h hE
  refine⟨fun e=>hE.q .normal κ A env ds a w hs (Step.refl _ _ _) hn (h.1 e),fun j hj=> ?_⟩
  obtain⟨_,o,ho,_⟩:=mem_ready.1 hj
  obtain⟨_,h2⟩:=Uo hL
  obtain⟨i,hi,hli⟩:=h2 j o (by simpa using ho)
  have hj:=h.2 j hj i hi
  unfold wpOp
  rw[ho]
  simp only
  refine Ib hli hs hn hj (fun κ' A' env' ds' a' w' q1 q2 q3 q4=>ih _ W κ' env' ds' A' a' w' q1 q3 q4.2 (hE.shift q2)) (fun κ' A' v u w' q1 q2 q3 q4 q5 q6=> ?_)
  exact hE.x κ' A' (Yy rt env) ds v a u w' q1 (TT q2) q3 q4 hn q5 q6
theorem RU (ops:Array Oper)(m:Nat):Ky ops (Array.replicate m false):=fun k o _ hk=>by
 rcases fH k m with h|h
 ·simp [h]at hk
 ·simp [lD (show(Array.replicate m false).size≤k by simpa using h)]at hk
theorem Sim.heap {κ:Kn}{env:Qo}{ds:List QU}{A:Q3}{a:Act}{w w':World}(hw:w'.heap=w.heap)(h:Sim G κ env ds A a w):Sim G κ env ds A a w':=⟨Rel.heap hw h.rel,h.env,h.ds⟩
open Classical in
theorem HU:∀(c:Code) (l:LC),Ye P n rt c=some l→∀(Q:QL) (X:XE) (Q':Exit→Act→World→Prop) (κ:Kn) (env:Qo) (ds:List QU) (A:Q3) (a:Act) (w:World),
 Sim G κ env ds A a w→a.tmps.size=n→WL P G rt l env ds A Q X→Ends G rt n κ A w Q X Q'→c.wp P Q' a w:=by
 intro c
 induction c with
 |skip=>
  intro l hl Q X Q' κ env ds A a w hs hn h hE
  simp only[Ye,cA]at hl;subst hl
  exact wp_skip (hE.q .normal κ A env ds a w hs (Step.refl _ _ _) hn h)
 |region id ops draw=>
  intro l hl Q X Q' κ env ds A a w hs hn h hE
  cases draw with
  |false=>
   simp only[Ye,cG]at hl
   obtain⟨L,hL,rfl⟩:=hl
   refine wp_region ?_
   rw[List.range_eq_range']
   exact Rs hL ops.size 0 κ env ds A a w (by omega) hs hn (by simpa[WL]using h) hE
  |true=>
   simp only[Ye]at hl
   split at hl
   ·rename_i L hL
    split at hl
    ·rename_i hc
     simp only[cD]at hc
     simp only[cG]at hl
     obtain⟨s,hsd,rfl⟩:=hl
     refine wp_region_any hc.1 ?_
     have hst:Step κ A w κ A {w with drawn:=w.drawn+1}:=Step.heap rfl rfl rfl rfl
     exact PU hL ops.size _ [] κ env ds A a _ (Sim.heap (w:=w) rfl hs) hn (MR _ _ _ s hsd [] env ds A (RU _ _) rfl h) (hE.shift hst)
    ·simp at hl
   ·simp at hl
 |seq x y ihx ihy=>
  intro l hl Q X Q' κ env ds A a w hs hn h hE
  simp only[Ye]at hl
  split at hl
  ·rename_i lx ly hx hy
   simp only[cA]at hl;subst hl
   refine wp_seq (ihx lx hx _ X _ κ env ds A a w hs hn h ⟨fun e κ' A' env' ds' a' w' h1 h2 h3 h4=> ?_,fun κ' A' env' ds' v a' u w' h1 h2 h3 h4 h5 h6 h7=> ?_⟩)
   ·cases e with
    |normal=>exact ihy ly hy Q X Q' κ' env' ds' A' a' w' h1 h3 h4 (hE.shift h2)
    |exit id=>exact hE.q (.exit id) κ' A' env' ds' a' w' h1 h2 h3 h4
    |ret=>exact hE.q .ret κ' A' env' ds' a' w' h1 h2 h3 h4
   ·exact hE.x κ' A' env' ds' v a' u w' h1 h2 h3 h4 h5 h6 h7
  ·simp at hl
 |cond c x y ihx ihy=>
  intro l hl Q X Q' κ env ds A a w hs hn h hE
  simp only[Ye]at hl
  split at hl
  ·rename_i lx ly hx hy
   simp only[cA]at hl;subst hl
   simp only[WL]at h
   have hc:=QI hs.rel hs.env c
   split at h
   ·rename_i t ht
    rw[ht]at hc
    simp only[Qc]at hc
    refine wp_cond hc ?_
    cases t with
    |true=>exact ihx lx hx Q X Q' κ env ds A a w hs hn h hE
    |false=>exact ihy ly hy Q X Q' κ env ds A a w hs hn h hE
   ·exact h.elim
  ·simp at hl
 |block id c ih=>
  intro l hl Q X Q' κ env ds A a w hs hn h hE
  simp only[Ye,cG]at hl
  obtain⟨lc,hc,rfl⟩:=hl
  refine wp_block (ih lc hc _ X _ κ env ds A a w hs hn h ⟨fun e κ' A' env' ds' a' w' h1 h2 h3 h4=> ?_,fun κ' A' env' ds' v a' u w' h1 h2 h3 h4 h5 h6 h7=> ?_⟩)
  ·cases e with
   |normal=>exact hE.q .normal κ' A' env' ds' a' w' h1 h2 h3 h4
   |exit j=>
    simp only[OB]at h4
    simp only[LExit.up,Exit.inBlock]
    split at h4
    ·rename_i hj;rw[fC hj];exact hE.q .normal κ' A' env' ds' a' w' h1 h2 h3 h4
    ·rename_i hj;rw[fD hj];exact hE.q (.exit j) κ' A' env' ds' a' w' h1 h2 h3 h4
   |ret=>exact hE.q .ret κ' A' env' ds' a' w' h1 h2 h3 h4
  ·exact hE.x κ' A' env' ds' v a' u w' h1 h2 h3 h4 h5 h6 h7
 |loop c ih=>
  intro l hl Q X Q' κ env ds A a w hs hn h hE
  simp only[Ye,cG]at hl
  obtain⟨lc,hc,rfl⟩:=hl
  simp only[WL]at h
  obtain⟨I,⟨n0,h0⟩,hround⟩:=h
  let J:Nat→Act→World→Prop:=fun m a1 w1=>∃κ1 A1 env1 ds1,Sim G κ1 env1 ds1 A1 a1 w1∧Step κ A w κ1 A1 w1∧a1.tmps.size=n∧I m env1 ds1 A1
  have hmin:∀a1 w1,(∃m,J m a1 w1)→∃m,J m a1 w1∧∀k,J k a1 w1→m≤k:=fun a1 w1 ⟨m,hm⟩=>by
   induction m using Nat.strongRecOn with
   |_ m ihm=>
    by_cases hex:∃k,k<m∧J k a1 w1
    ·obtain⟨k,hk,hJ⟩:=hex
     exact ihm k hk hJ
    ·exact⟨m,hm,fun k hk=>Nat.le_of_not_lt fun hlt=>hex ⟨k,hlt,hk⟩⟩
  let μ:Act→World→Nat:=fun a1 w1=>if hx:∃m,J m a1 w1 then Classical.choose (hmin a1 w1 hx)else 0
  have hμ:∀a1 w1,(∃m,J m a1 w1)→J (μ a1 w1) a1 w1∧∀k,J k a1 w1→μ a1 w1≤k:=fun a1 w1 hx=>by
   simp only[μ,dif_pos hx]
   exact Classical.choose_spec (hmin a1 w1 hx)
  refine wp_loop (fun a1 w1=>∃m,J m a1 w1) μ ⟨n0,κ,A,env,ds,hs,Step.refl _ _ _,hn,h0⟩ fun a1 w1 hx=> ?_
  obtain⟨⟨κ1,A1,env1,ds1,hs1,hst1,hn1,hI1⟩,_⟩:=hμ a1 w1 hx
  refine ih lc hc _ X _ κ1 env1 ds1 A1 a1 w1 hs1 hn1 (hround _ env1 ds1 A1 hI1) ⟨fun e κ' A' env' ds' a' w' h1 h2 h3 h4=> ?_,fun κ' A' env' ds' v a' u w' h1 h2 h3 h4 h5 h6 h7=> ?_⟩
  ·cases e with
   |normal=>
    obtain⟨m,hm,hIm⟩:=h4
    have hJ:J m a' w':=⟨κ',A',env',ds',h1,hst1.trans h2,h3,hIm⟩
    exact⟨⟨m,hJ⟩,Nat.lt_of_le_of_lt ((hμ a' w' ⟨m,hJ⟩).2 m hJ) hm⟩
   |exit id=>exact hE.q (.exit id) κ' A' env' ds' a' w' h1 (hst1.trans h2) h3 h4
   |ret=>exact hE.q .ret κ' A' env' ds' a' w' h1 (hst1.trans h2) h3 h4
  ·exact hE.x κ' A' env' ds' v a' u w' h1 h2 h3 (hst1.trans h4) h5 h6 h7
 |exit id=>
  intro l hl Q X Q' κ env ds A a w hs hn h hE
  simp only[Ye,cA]at hl;subst hl
  exact wp_exit (hE.q (.exit id) κ A env ds a w hs (Step.refl _ _ _) hn h)
 |ret=>
  intro l hl Q X Q' κ env ds A a w hs hn h hE
  simp only[Ye,cA]at hl;subst hl
  exact wp_ret (hE.q .ret κ A env ds a w hs (Step.refl _ _ _) hn h)
 |_=>intro l hl;simp [Ye]at hl
end
inductive LRes where
 |tmp (t:Nat)
 |cell (a sz:Nat) (agg:Bool)
 deriving Inhabited
def YZ:LRes→Nat
 | .tmp t=>t
 | .cell a _ _=>a
def U8 (dfr:Bool)(l:List LRes):List Nat:=if dfr then l.map YZ else[]
structure LFn where
 n:Nat
 dfr:Bool
 res:List LRes
 code:LC
 deriving Inhabited
def Wk (v v':AV):Prop:=∀κ u,Qc κ v u→Qc κ v' u
theorem Wk.refl (v:AV):Wk v v:=fun _ _ h=>h
def U2 (A A':Q3):Prop:=∀(G:Nat→Option (List AV)) (κ:Kn) (w:World),Rel G κ A w→Rel G κ A' w∧∀b,U0 κ A' w b→U0 κ A w b
theorem U2.refl (A:Q3):U2 A A:=fun _ _ _ h=>⟨h,fun _ h=>h⟩
theorem U2.trans {A B C:Q3}(h:U2 A B)(k:U2 B C):U2 A C:=fun G κ w hr=>⟨(k G κ w (h G κ w hr).1).1,fun b hb=>(h G κ w hr).2 b ((k G κ w (h G κ w hr).1).2 b hb)⟩
theorem yF {A A':Q3}(h:GU A' A):U2 A A':=fun _ _ _ hr=>⟨hr.weaken h,fun _ ⟨id,o,x,h1,h2⟩=>⟨id,o,x,h.1 _ _ h1,h2⟩⟩
theorem U2.step {A A':Q3}(h:U2 A A'){G:Nat→Option (List AV)}{κ κ':Kn}{A0:Q3}{w w':World}(hr:Rel G κ' A w')(s:Step κ A0 w κ' A w'):Step κ A0 w κ' A' w':=
 ⟨s.le,s.size,s.keep,fun b hb=>s.trk b ((h G κ' w' hr).2 b hb),s.tape,s.os,s.output⟩
def Jw (args:List AV):Qo:=fun t=>args.getD t Ja
def L9 (env:Qo)(A:Q3):LRes→Option AV
 | .tmp t=>some (env t)
 | .cell a sz g=>Jq A sz g (env a)
def XY (env:Qo)(A:Q3):List LRes→Option (List AV)
 |[]=>some []
 |r::rs=>match L9 env A r,XY env A rs with
  |some v,some vs=>some (v::vs)
  |_,_=>none
def Kr (rs:List LRes)(env:Qo)(A:Q3):Option AV:=
 match XY env A rs with
 |some [v]=>some v
 |some vs=>some (.tuple vs)
 |none=>none
def Va (κ:Kn):Option AV→FrameMode→Prop
 |none,u=>u=.returning
 |some v,u=>∃x,u=.panicking [{v:=x,recovered:=false}]∧Qc κ v x
theorem Va.mono {κ κ':Kn}(h:κ.le κ'){pn:Option AV}{u:FrameMode}(hr:Va κ pn u):Va κ' pn u:=by
 cases pn with
 |none=>exact hr
 |some v=>obtain⟨x,h1,h2⟩:=hr;exact⟨x,h1,Qc.mono h _ _ h2⟩
theorem Va.not_run {κ:Kn}{pn:Option AV}{u:FrameMode}(hr:Va κ pn u):u≠ .run:=by
 cases pn with
 |none=>simp only[Va]at hr;subst hr;simp
 |some v=>obtain⟨x,rfl,_⟩:=hr;simp
section
variable (P:Program)(G:Nat→Option (List AV))
def K8 (f:FuncId)(args:List AV)(pn:Option AV)(A:Q3)(K:Option AV→Q3→Prop):Prop:=
 WJ P f=true∧∀κ w,Rel G κ A w→∀vs:Array Value,Qi κ args vs.toList→∀u,Va κ pn u→CallsD P f vs u w fun e u' w'=>
  ∃v,e=.returned v∧∃κ' A' pn',Va κ' pn' (settle u')∧Rel G κ' A' w'∧Step κ A w κ' A' w'∧K pn' A'
def XP:List QU→Option AV→Q3→(Option AV→Q3→Prop)→Prop
 |[],pn,A,K=>K pn A
 |d::r,pn,A,K=>K8 P G d.1 d.2 pn A fun pn' A'=>XP r pn' A' K
def Vx (res:List LRes)(env:Qo)(K:Out→Q3→Prop)(pn:Option AV)(A:Q3):Prop:=
 match pn with
 |none=>∃v v' A',Kr res env A=some v∧Wk v v'∧U2 A A'∧K (.ret v') A'
 |some v=>∃A',U2 A A'∧K (.pan v) A'
def Lb (l:LFn)(K:Out→Q3→Prop):QL
 | .exit _,_,_,_=>False
 |_,env,ds,A=>XP P G ds none A (Vx l.res env K)
def Ow (l:LFn)(K:Out→Q3→Prop):XE:=fun env ds v A=>
 if l.dfr then XP P G ds (some v) A (Vx l.res env K)else ds=[]∧∃A',U2 A A'∧K (.pan v) A'
def vQ (l:LFn)(args:List AV)(A:Q3)(K:Out→Q3→Prop):Prop:=
 args.length≤l.n∧WL P G (U8 l.dfr l.res) l.code (Jw args) [] A (Lb P G l K) (Ow P G l K)
end
def Vc (P:Program):List ResultVar→Option (List LRes)
 |[]=>some []
 | .tmp t::r=>(Vc P r).map (.tmp t::·)
 | .cell a t::r=>match Kh P t,Vc P r with
  |some (sz,g),some l=>some (.cell a sz g::l)
  |_,_=>none
def L4:Code→Bool
 | .region _ ops _=>ops.toList.any fun o=>match o.op with
  | .defer _=>true
  |_=>false
 | .seq a b| .cond _ a b=>L4 a||L4 b
 | .block _ c| .loop c=>L4 c
 |_=>false
def Q8 (P:Program)(f:FuncId):Option LFn:=
 match P.funcs[f]? with
 |some fn=>if fn.name != "runtime.NumGoroutine" then match fn.body,Vc P fn.results.toList with
  |some c,some res=>(Ye P fn.ntmps (U8 (L4 c) res) c).map fun code=>⟨fn.ntmps,L4 c,res,code⟩
  |_,_=>none
  else none
 |none=>none
section
variable {P:Program}{G:Nat→Option (List AV)}
theorem Hr {f:FuncId}{l:LFn}(h:Q8 P f=some l):∃fn c,P.funcs[f]? =some fn∧fn.body=some c∧WJ P f=true∧l.n=fn.ntmps∧Vc P fn.results.toList=some l.res∧Ye P fn.ntmps (U8 l.dfr l.res) c=some l.code:=by
 unfold Q8 at h
 split at h
 ·rename_i fn hfn
  split at h
  ·rename_i hname
   split at h
   ·rename_i c res hc hres
    simp only[cG]at h
    obtain⟨code,hcode,rfl⟩:=h
    exact⟨fn,c,hfn,hc,by simp [WJ,hfn,hc];simpa using hname,rfl,hres,hcode⟩
   ·simp at h
  ·simp at h
 ·simp at h
theorem KI {κ:Kn}{args:List AV}{vs:Array Value}(h:Qi κ args vs.toList)(m:Nat):YX κ (Jw args) (vs++Array.replicate m undef):=fun t=>by
 have hlen:=h.length
 simp only[dR]at hlen
 unfold Jw
 rcases fH t args.length with ht|ht
 ·obtain⟨x,h1,h2⟩:=Qi.get h t args[t] (by simp [ht])
  have e1:args.getD t Ja=args[t]:=by simp [ht]
  have e2:(vs++Array.replicate m undef).getD t undef=x:=by
   have hv:vs[t]? =some x:=by simpa using h1
   have hlt:t<vs.size:=by omega
   simp [Array.getElem?_append,hlt]
   simpa[hlt]using hv
  rw[e1,e2];exact h2
 ·have e1:args.getD t Ja=Ja:=by simp [ht]
  have e2:(vs++Array.replicate m undef).getD t undef=undef:=by
   have hlt:¬t<vs.size:=by omega
   simp only[Array.getD_eq_getD_getElem?,Array.getElem?_append,hlt,if_false]
   rcases fH (t - vs.size) m with h'|h'
   ·simp [h']
   ·rw[lD (by simpa using h')];rfl
  rw[e1,e2];exact W3
def WY (tmps:Array Value):ResultVar→Sem Value
 | .tmp t=>pure (tmps.getD t undef)
 | .cell a t=>do loadVar t (←asAddr (tmps.getD a undef))
theorem Pj (fn:Func)(tmps:Array Value):results fn tmps=(fn.results.mapM (WY tmps) >>= fun vs=>pure (if h:vs.size=1 then vs[0]else .tuple vs)):=by
 have e:(fun r:ResultVar=>(match r with
  | .tmp t=>(pure (tmps.getD t undef):Sem Value)
  | .cell a t=>asAddr (tmps.getD a undef) >>= fun x=>loadVar t x))=WY tmps:=by funext r;cases r <;> rfl
 unfold results
 rw[←e]
 rfl
theorem KH {κ:Kn}{A:Q3}{w:World}(h:Rel G κ A w){tmps:Array Value}:∀{rs:List ResultVar} {l:List LRes} {env:Qo} {vs:List AV},Vc P rs=some l→IG (l.map YZ) κ env tmps→XY env A l=some vs→
 ∃us:List Value,(rs.mapM (WY tmps)).run P w=.ok us w∧Qi κ vs us
 |[],l,env,vs,hl,_,hv=>by
  simp only[Vc,cA]at hl;subst hl
  simp only[XY,cA]at hv;subst hv
  exact⟨[],by simp,by simp [Qi]⟩
 | .tmp t::r,l,env,vs,hl,hrt,hv=>by
  simp only[Vc,cG]at hl
  obtain⟨l',hl',rfl⟩:=hl
  simp only[XY,L9]at hv
  split at hv
  ·rename_i v vs' hv1 hv2
   simp only[cA]at hv hv1;subst hv;subst hv1
   obtain⟨us,h1,h2⟩:=KH h hl' (fun t ht=>hrt t (dI _ ht)) hv2
   refine⟨tmps.getD t undef::us,by simp [List.mapM_cons,WY,h1],?_⟩
   simp only[Qi]
   exact⟨_,_,rfl,hrt t (dO ..),h2⟩
  ·simp at hv
 | .cell a t::r,l,env,vs,hl,hrt,hv=>by
  simp only[Vc]at hl
  split at hl
  ·rename_i sz g l' hag hl'
   simp only[cA]at hl;subst hl
   simp only[XY,L9]at hv
   split at hv
   ·rename_i v vs' hv1 hv2
    simp only[cA]at hv;subst hv
    obtain⟨us,h1,h2⟩:=KH h hl' (fun t ht=>hrt t (dI _ ht)) hv2
    have ha:=hrt a (dO ..)
    obtain⟨x,hx1,hx2⟩:=Lm (P:=P) h hag ha hv1
    have hx3:(do loadVar t (←asAddr (tmps.getD a undef)):Sem Value).run P w=.ok x w:=by
     unfold Instr.loadAt at hx1
     generalize tmps.getD a undef=y at hx1
     cases y with
     |pointer p=>
      cases p with
      |none=>simp [Instr.sureAddr,stuck,Sem.run]at hx1
      |some ad=>simpa[Instr.sureAddr,asAddr]using hx1
     |_=>simp [Instr.sureAddr,stuck,Sem.run]at hx1
    refine⟨x::us,?_,by simp only[Qi];exact⟨_,_,rfl,hx2,h2⟩⟩
    have hx4:(WY tmps (.cell a t)).run P w=.ok x w:=hx3
    simp [List.mapM_cons,hx4,h1]
   ·simp at hv
  ·simp at hl
theorem MQ {κ:Kn}{A:Q3}{w:World}(h:Rel G κ A w){fn:Func}{l:List LRes}(hl:Vc P fn.results.toList=some l){tmps:Array Value}{env:Qo}(hrt:IG (l.map YZ) κ env tmps){v:AV}(hv:Kr l env A=some v):
 ∃u,(results fn tmps).run P w=.ok u w∧Qc κ v u:=by
 unfold Kr at hv
 have key:∀vs,XY env A l=some vs→∃us:Array Value,Qi κ vs us.toList∧(results fn tmps).run P w=.ok (if h:us.size=1 then us[0]else .tuple us) w:=fun vs hvs=>by
  obtain⟨us,h1,h2⟩:=KH h hl hrt hvs
  refine⟨us.toArray,by simpa using h2,?_⟩
  rw[Pj,←Array.toArray_toList (xs:=fn.results),List.mapM_toArray]
  simp [h1]
 split at hv
 ·rename_i v' hr
  simp only[cA]at hv;subst hv
  obtain⟨us,h1,h2⟩:=key _ hr
  obtain⟨x,hx,hxr⟩:=h1.two
  have he:us=#[x]:=by apply dN.1;simpa using hx
  subst he
  exact⟨x,by simpa using h2,hxr⟩
 ·rename_i vs hr hne
  simp only[cA]at hv;subst hv
  obtain⟨us,h1,h2⟩:=key _ hne
  have hlen:=h1.length
  have hn1:us.size≠1:=fun e=>by
   rw[dR,e]at hlen
   obtain⟨y,hy⟩:=fZ.1 hlen.symm
   exact hr y hy
  refine⟨.tuple us,by rw[h2,dif_neg hn1],?_⟩
  simp only[Qc]
  exact⟨us,rfl,h1⟩
 ·simp at hv
theorem Xm {fn:Func}{res:List LRes}(hl:Vc P fn.results.toList=some res){tmps:Array Value}{env:Qo}{K:Out→Q3→Prop}{κ0:Kn}{A0:Q3}{w0:World}:∀(ds:List QU) (defers:List Deferred) (pn:Option AV) (u:FrameMode) (κ:Kn) (A:Q3) (w:World),
 Rel G κ A w→V7 κ ds defers→Va κ pn u→IG (res.map YZ) κ env tmps→Step κ0 A0 w0 κ A w→XP P G ds pn A (Vx res env K)→
 Leaves P fn tmps (fun e w'=>∃κ' A' o,Rel G κ' A' w'∧Step κ0 A0 w0 κ' A' w'∧OC κ' o e∧K o A') defers u w
 |[],defers,pn,u,κ,A,w,hr,hd,hm,hrt,hst,h=>by
  simp only[V7]at hd;subst hd
  simp only[XP]at h
  cases pn with
  |none=>
   simp only[Va]at hm;subst hm
   obtain⟨v,v',A',h1,h2,h3,h4⟩:=h
   obtain⟨x,hx1,hx2⟩:=MQ hr hl hrt h1
   exact⟨x,hx1,κ,A',.ret v',(h3 _ _ _ hr).1,h3.step hr hst,⟨x,rfl,h2 _ _ hx2⟩,h4⟩
  |some v=>
   obtain⟨x,rfl,hx⟩:=hm
   obtain⟨A',h3,h4⟩:=h
   exact⟨κ,A',.pan v,(h3 _ _ _ hr).1,h3.step hr hst,⟨x,rfl,hx⟩,h4⟩
 |(f,args)::ds,defers,pn,u,κ,A,w,hr,hd,hm,hrt,hst,h=>by
  simp only[V7]at hd
  obtain⟨d,ds',rfl,⟨cap,htar,hargs⟩,hd'⟩:=hd
  simp only[XP]at h
  obtain⟨hg,hcall⟩:=h
  refine⟨hm.not_run,.func f,cap,f,d.args++cap,htar,?_,?_⟩
  ·unfold WJ at hg
   split at hg
   ·rename_i fn' hfn'
    simp only[cD,bne_iff_ne]at hg
    obtain⟨bd,hbd⟩:=fU.1 hg.1
    simp [htar,invoke,callFunc,hfn',hg.2,hbd]
   ·simp at hg
  ·refine(hcall κ w hr (d.args++cap) (by simpa using hargs) u hm).mono fun e u' w' ⟨v,he,κ',A',pn',h1,h2,h3,h4⟩=> ?_
   subst he
   exact Xm hl ds ds' pn' (settle u') κ' A' w' h2 (hd'.mono h3.le) h1 (fun t ht=>Qc.mono h3.le _ _ (hrt t ht)) (hst.trans h3) h4
theorem MW {fn:Func}{l:LFn}(hres:Vc P fn.results.toList=some l.res){K:Out→Q3→Prop}{κ:Kn}{A:Q3}{w:World}:
 Ends G (U8 l.dfr l.res) fn.ntmps κ A w (Lb P G l K) (Ow P G l K) (bodyPostD P fn (fun e w'=>∃κ' A' o,Rel G κ' A' w'∧Step κ A w κ' A' w'∧OC κ' o e∧K o A')):={
 q:=fun e κ' A' env' ds' a' w' h1 h2 h3 h4=>by
  have h5:IG (l.res.map YZ) κ' env' a'.tmps:=fun t _=>h1.env t
  cases e with
  |normal=>exact Xm hres ds' a'.defers none .returning κ' A' w' h1.rel h1.ds rfl h5 h2 h4
  |exit id=>exact h4.elim
  |ret=>exact Xm hres ds' a'.defers none .returning κ' A' w' h1.rel h1.ds rfl h5 h2 h4
 x:=fun κ' A' env' ds' v a' u w' h1 h2 h3 h4 h5 h6 h7=>by
  unfold Ow at h7
  split at h7
  ·rename_i hd
   exact Xm hres ds' a'.defers (some v) (.panicking [{v:=u,recovered:=false}]) κ' A' w' h1 h3 ⟨u,rfl,h6⟩ (by rw[hd]at h2;exact h2) h4 h7
  ·obtain⟨rfl,A2,h8,h9⟩:=h7
   simp only[V7]at h3
   simp only[bodyPostD]
   rw[h3]
   exact⟨κ',A2,.pan v,(h8 _ _ _ h1).1,h8.step h1 h4,⟨u,rfl,h6⟩,h9⟩}
theorem MV {f:FuncId}{l:LFn}(hl:Q8 P f=some l){args:List AV}{A:Q3}{K:Out→Q3→Prop}(h:vQ P G l args A K):Qt P G f args A K:=by
 obtain⟨fn,c,h1,h2,h3,h4,h6,h7⟩:=Hr hl
 refine⟨h3,fun κ w hr vs hvs=>calls_of_wp_defers h1 h2 ?_⟩
 have hlen:=hvs.length
 simp only[dR]at hlen
 have hn:args.length≤fn.ntmps:=h4▸h.1
 exact HU c l.code h7 _ _ _ κ (Jw args) [] A _ w ⟨hr,KI hvs _,by simp [V7]⟩ (by simp;omega) h.2 (MW h6)
end
structure LRec where
 n:Nat
 d:Option Nat
 ops:List LInstr
 code:LC
 deriving Inhabited
def T9 (o:Oper):Bool:=
 match o.op,o.guard with
 | .call {callee:=.builtin .recover,args,..},none=>args.isEmpty
 |_,_=>false
def Ih (P:Program)(f:FuncId):Option LRec:=
 match P.funcs[f]? with
 |some fn=>if fn.name != "runtime.NumGoroutine" &&fn.results.isEmpty then match fn.body with
  |some (.seq (.region _ ops false) c)=>match ops.toList with
   |o::r=>if T9 o&&KP fn.ntmps o.dst then match Ui P fn.ntmps ops r,Ye P fn.ntmps [] c with
    |some L,some code=>some ⟨fn.ntmps,o.dst,L,code⟩
    |_,_=>none
    else none
   |[]=>none
  |_=>none
  else none
 |none=>none
def M3:Option AV→AV
 |some v=>v
 |none=>.raw .nilIface
section
variable (P:Program)(G:Nat→Option (List AV))
def EF (K:Option AV→Q3→Prop):QL
 | .exit _,_,_,_=>False
 |_,_,ds,A=>ds=[]∧∃A',U2 A A'∧K none A'
def recW (l:LRec)(args:List AV)(pn:Option AV)(A:Q3)(K:Option AV→Q3→Prop):Prop:=
 args.length≤l.n∧YL P G [] l.ops (putD (Jw args) l.d (M3 pn)) [] A (fun env ds A=>WL P G [] l.code env ds A (EF K) fun _ _ _ _=>False) fun _ _ _ _=>False
end
section
variable {P:Program}{G:Nat→Option (List AV)}
theorem UZ {ops:Array Oper}{Q:Exit→Act→List Frame→World→Prop}{cs:List Frame}(hno:∀a w,¬Q .outgrown a cs w):∀(l:List Nat) (a:Act) (w:World),wpOps P ops (fun e a w=>Q e a cs w) l a w→wpOpsS P ops Q l a cs w
 |[],a,w,h=>h
 |i::rest,a,w,h=>by
  simp only[wpOps]at h
  simp only[wpOpsS]
  cases ho:ops[i]? with
  |none=>rw[ho]at h;exact UZ hno rest a w h
  |some o=>
   rw[ho]at h
   simp only at h⊢
   split
   ·rename_i hw
    rw[fC hw]at h
    have h:=h.resolve_right fun⟨_,a',w',hq⟩=>hno a' w' hq
    have ih:∀a w,wpOps P ops (fun e a w=>Q e a cs w) rest a w→wpOpsS P ops Q rest a cs w:=fun a w h=>UZ hno rest a w h
    have h:=Oper.wp_mono ih h
    unfold Oper.wp at h
    split
    ·rename_i w' hr
     rw[hr]at h
     exact h.elim
    ·exact h
   ·rename_i hw
    rw[fD hw]at h
    exact UZ hno rest _ w h
theorem RJ {f:FuncId}{l:LRec}(h:Ih P f=some l):∃fn id ops c o r,P.funcs[f]? =some fn∧fn.results=#[]∧fn.body=some (.seq (.region id ops false) c)∧ops.toList=o::r∧T9 o=true∧KP fn.ntmps o.dst=true∧
 Ui P fn.ntmps ops r=some l.ops∧Ye P fn.ntmps [] c=some l.code∧l.n=fn.ntmps∧l.d=o.dst∧WJ P f=true:=by
 unfold Ih at h
 split at h
 ·rename_i fn hfn
  split at h
  ·rename_i hc
   simp only[cD]at hc
   split at h
   ·rename_i id ops c hb
    split at h
    ·rename_i o r ho
     split at h
     ·rename_i hc2
      simp only[cD]at hc2
      split at h
      ·rename_i L code hL hcode
       simp only[cA]at h;subst h
       exact⟨fn,id,ops,c,o,r,hfn,by simpa using hc.2,hb,ho,hc2.1,hc2.2,hL,hcode,rfl,rfl,by simp [WJ,hfn,hb];simpa using hc.1⟩
      ·simp at h
     ·simp at h
    ·simp at h
   ·simp at h
  ·simp at h
 ·simp at h
theorem RD {o:Oper}(h:T9 o=true)(ρ:Operand→Value)(w:World):(execOp ρ o).run P w=.ok .recover w∧o.guard=none:=by
 obtain⟨dst,op,ty,pos,aft,gd⟩:=o
 unfold T9 at h
 split at h
 ·rename_i args tys hop hg
  simp only at hop hg
  subst hop hg
  have:args=#[]:=by simpa using h
  subst this
  exact⟨by simp [execOp,resolve,invoke,builtin],rfl⟩
 ·simp at h
theorem MS {n:Nat}{ops:Array Oper}{l0:List Oper}{L:List LInstr}(hL:Ui P n ops l0=some L){K:KS}{Q':Exit→Act→World→Prop}:∀(m k:Nat) (κ0:Kn) (A0:Q3) (w0:World) (κ:Kn) (env:Qo) (ds:List QU) (A:Q3) (a:Act) (w:World),k+m=l0.length→(∀j,ops[j+1]? =l0[j]?)→
 Sim G κ env ds A a w→Step κ0 A0 w0 κ A w→a.tmps.size=n→YL P G [] (L.drop k) env ds A K (fun _ _ _ _=>False)→
 (∀κ' A' env' ds' a' w',Sim G κ' env' ds' A' a' w'→Step κ0 A0 w0 κ' A' w'→a'.tmps.size=n→K env' ds' A'→Q' .normal a' w')→wpOps P ops Q' (List.range' (k+1) m) a w:=by
 intro m
 induction m with
 |zero=>
  intro k κ0 A0 w0 κ env ds A a w hk hops hs hst hn h hE
  obtain⟨h1,_⟩:=Uo hL
  rw[List.drop_eq_nil_of_le (by rw[h1];omega)]at h
  exact hE κ A env ds a w hs hst hn h
 |succ m ih=>
  intro k κ0 A0 w0 κ env ds A a w hk hops hs hst hn h hE
  obtain⟨h1,h2⟩:=Uo hL
  have hlt:k<l0.length:=by omega
  have ho:l0[k]? =some l0[k]:=dY hlt
  obtain⟨i,hi,hli⟩:=h2 k l0[k] ho
  have hdrop:L.drop k=i::L.drop (k+1):=by
   obtain⟨hlt',hget⟩:=fO.1 hi
   rw[dP hlt',hget]
  rw[hdrop]at h
  simp only[YL]at h
  rw[List.range'_succ]
  simp only[wpOps,hops k,ho]
  refine Ib hli hs hn h (fun κ' A' env' ds' a' w' q1 q2 q3 q4=>ih (k+1) κ0 A0 w0 κ' env' ds' A' a' w' (by omega) hops q1 (hst.trans q2) q3 q4 hE) (fun κ' A' v u w' _ _ _ _ _ q6=>q6.elim)
theorem RS {f:FuncId}{l:LRec}(hl:Ih P f=some l){args:List AV}{pn:Option AV}{A:Q3}{K:Option AV→Q3→Prop}(h:recW P G l args pn A K):K8 P G f args pn A K:=by
 obtain⟨fn,id,ops,c,o,r,h1,h2,h3,h4,h5,h6,h7,h8,h9,h10,h11⟩:=RJ hl
 refine⟨h11,fun κ w hr vs hvs u hm=>callsD_of_wpS h1 h3 fun c₀ cs hu=> ?_⟩
 obtain⟨hargs,h⟩:=h
 have hlen:=hvs.length
 simp only[dR]at hlen
 have hn:args.length≤fn.ntmps:=h9▸hargs
 have hops:ops=#[o]++r.toArray:=by apply dN.1;simp [h4]
 have hsz:ops.size=r.length+1:=by rw[hops];simp
 refine wpS_seq (wpS_region ?_)
 have hrange:List.range ops.size=0::List.range' 1 r.length:=by rw[hsz,List.range_eq_range',List.range'_succ]
 rw[hrange]
 simp only[wpOpsS]
 have h0:ops[0]? =some o:=by rw[hops];simp
 rw[h0]
 simp only
 obtain⟨hrun,hg⟩:=RD (P:=P) h5 ({tmps:=vs++Array.replicate (fn.ntmps - vs.size) undef,defers:=[]}:Act).eval w
 rw[fC (by simp [Region.wanted,hg]),hrun]
 simp only
 have hsize:(vs++Array.replicate (fn.ntmps - vs.size) undef).size=fn.ntmps:=by simp;omega
 have key:∀(x:Value) (u':FrameMode),Qc κ (M3 pn) x→settle u'=.returning→
  wpOpsS P ops (Exit.thenS (c.wpS P (bodyPostS P fn c₀ cs fun e u' w'=>∃v,e=.returned v∧∃κ' A' pn',Va κ' pn' (settle u')∧Rel G κ' A' w'∧Step κ A w κ' A' w'∧K pn' A'))
   (bodyPostS P fn c₀ cs fun e u' w'=>∃v,e=.returned v∧∃κ' A' pn',Va κ' pn' (settle u')∧Rel G κ' A' w'∧Step κ A w κ' A' w'∧K pn' A'))
   (List.range' 1 r.length) (({tmps:=vs++Array.replicate (fn.ntmps - vs.size) undef,defers:=[]}:Act).put o.dst x) ({c₀ with mode:=u'}::cs) w:=fun x u' hx hset=>by
  refine UZ (fun a w' hq=> ?_) _ _ _ ?_
  ·obtain⟨_,_,hq,_⟩:=hq
   cases hq
  ·have hs0:Sim G κ (Jw args) [] A {tmps:=vs++Array.replicate (fn.ntmps - vs.size) undef,defers:=[]} w:=⟨hr,KI hvs _,by simp [V7]⟩
   have hs1:=hs0.step hr (Kn.le_refl κ) (d:=o.dst) (by simp only;rw[hsize];exact h6) hx
   rw[h10]at h
   refine MS h7 r.length 0 κ A w κ _ _ A _ w (by omega) (fun j=>by rw[hops];simp) hs1 (Step.refl _ _ _) ((Zn _ _ _).trans hsize) (by simpa using h) fun κ' A' env' ds' a' w' q1 q2 q3 q4=> ?_
   refine wpS_of_wp (HU c l.code h8 _ _ _ κ' env' ds' A' a' w' q1 q3 q4 ⟨fun e κ2 A2 env2 ds2 a2 w2 p1 p2 p3 p4=> ?_,fun _ _ _ _ _ _ _ _ _ _ _ _ _ _ hf=>hf.elim⟩)
   have fin:(ds2=[]∧∃A',U2 A2 A'∧K none A')→a2.defers=[]∧∃u'',({c₀ with mode:=u'}::cs:List Frame)={c₀ with mode:=u''}::cs∧∃v,(results fn a2.tmps).run P w2=.ok v w2∧
    (∃v',Ending.returned v=.returned v'∧∃κ' A' pn',Va κ' pn' (settle u'')∧Rel G κ' A' w2∧Step κ A w κ' A' w2∧K pn' A'):=fun⟨hds,A3,hw3,hk⟩=>by
    subst hds
    have hd2:=p1.ds
    simp only[V7]at hd2
    refine⟨hd2,u',rfl,.tuple #[],?_,_,rfl,κ2,A3,none,hset,(hw3 _ _ _ p1.rel).1,hw3.step p1.rel (q2.trans p2),hk⟩
    simp [results,h2]
   cases e with
   |normal=>exact fin p4
   |exit id=>exact p4.elim
   |ret=>exact fin p4
 cases pn with
 |none=>
  simp only[Va]at hm;subst hm
  have e0:recoverD (c₀::cs)=none:=by simp [recoverD,hu]
  rw[e0]
  simp only
  have hc:({c₀ with mode:=.returning}:Frame)=c₀:=by rw[←hu]
  have:=key .nilIface .returning (by simp only[M3];exact Jy) rfl
  rw[hc]at this
  exact this
 |some v=>
  obtain⟨x,rfl,hx⟩:=hm
  have e0:recoverD (c₀::cs)=some (x,{c₀ with mode:=.panicking [{v:=x,recovered:=true}]}::cs):=by simp [recoverD,hu]
  rw[e0]
  simp only
  exact key x (.panicking [{v:=x,recovered:=true}]) hx (by simp [settle])
end
end Go.Ax
