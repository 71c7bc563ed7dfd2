/- Part 2 of the proof. -/
import Derived.Test.YtcbjbgaefighcaaGreatDoorT0
import Derived.Test.YtcbjbgaefighcaaGreatDoorT1
set_option linter.all false
namespace Go.Ax
open Go
section
variable {P:Program}{G:Nat→Option (List AV)}{κ:Kn}{A:Q3}{w:World}
theorem PT:∀(cs:List AV) (us:List Value) (l:List UInt8),Qi κ cs us→UN cs=some l→
 ∀(X:Sem ByteArray) (s:ByteArray),(us.foldlM (fun(s:ByteArray) (c:Value)=>match c with| .int .u8 n=>(pure (s.push (UInt8.ofNat n.toNat)):Sem ByteArray)|_=>X) s).run P w=.ok ⟨(s.data.toList++l).toArray⟩ w
 |[],_,l,h,hb,X,s=>by
  simp only[Qi]at h;subst h
  simp only[UN,cA]at hb;subst hb
  simp
 |c::cs,_,l,h,hb,X,s=>by
  simp only[Qi]at h
  obtain⟨x,xs,rfl,h2,h3⟩:=h
  unfold UN at hb
  split at hb
  ·rename_i heq;simp at heq
  ·rename_i n r heq
   simp only[fQ]at heq
   obtain⟨rfl,rfl⟩:=heq
   simp only[cG]at hb
   obtain⟨l',hl',rfl⟩:=hb
   simp only[Qc]at h2;subst h2
   simp only[List.foldlM_cons,Sem.run_bind,Sem.run_pure,Result.andThen_ok]
   rw[PT cs xs l' h3 hl' X]
   simp
  ·simp at hb
theorem vT {b o j:Nat}{us:List Value}(hc:∀i v,us[i]? =some v→w.cell? ⟨b,o+i,none⟩=some v)(v:Value)(hv:us[j]? =some v):w.cell? ((⟨b,o,none⟩:Addr).add j)=some v:=by
 have:=hc j v hv
 unfold Addr.add
 split
 ·rename_i h0;subst h0;simpa using this
 ·exact this
theorem W4 (h:Rel G κ A w){b:Nat}:∀(cs:List AV) (o:Nat),Zx κ b cs o→∃us,Qi κ cs us∧us.length=cs.length∧∀i v,us[i]? =some v→w.cell? ⟨b,o+i,none⟩=some v
 |[],_,_=>⟨[],by simp [Qi],rfl,by simp⟩
 |c::cs,o,hr=>by
  simp only[Zx]at hr
  obtain⟨⟨x,h1,h2⟩,h3⟩:=hr
  obtain⟨us,k1,k2,k3⟩:=W4 h cs (o+1) h3
  refine⟨x::us,by simp only[Qi];exact⟨x,us,rfl,h2,k1⟩,by simp [k2],fun i v hv=> ?_⟩
  cases i with
  |zero=>simp at hv;subst hv;exact h.imm b o _ h1
  |succ i=>
   have:=k3 i v (by simpa using hv)
   rw[show o+(i+1)=o+1+i from by omega]
   exact this
theorem vX {b:Nat}(h:Rel G κ A w){cs:List AV}{o:Nat}(hr:Zx κ b cs o)(n:Nat):∃us,Qi κ (cs.take n) us∧us.length=(cs.take n).length∧∀i v,us[i]? =some v→w.cell? ⟨b,o+i,none⟩=some v:=
 W4 h _ o (Zx.take n hr)
theorem Gk (h:Rel G κ A w){id b e E:Nat}{cs:List AV}(hid:A id=some (.cells cs))(hs:κ.s id=some (b,e,E)):∃us,Qi κ cs us∧us.length=cs.length∧∀i v,us[i]? =some v→w.cell? ⟨b,i,none⟩=some v:=by
 obtain⟨b',e',E',k1,k2⟩:=h.obj id _ hid
 rw[hs]at k1;simp only[cA,cW]at k1;obtain⟨rfl,rfl,rfl⟩:=k1
 obtain⟨_,⟨a,el,h2,h3⟩,_⟩:=k2
 exact⟨a.toList,h3,h3.length,fun i v hv=>by simp only[World.cell?,h2];simpa using hv⟩
theorem Lm (h:Rel G κ A w){t:TypeId}{sz:Nat}{g:Bool}(ht:Kh P t=some (sz,g)){x:AV}{u:Value}{v:AV}(hu:Qc κ x u)
 (hv:Jq A sz g x=some v):∃r,(Instr.loadAt t u).run P w=.ok r w∧Qc κ v r:=by
 have h3:=(WO (P:=P) (w:=w) ht).2.2
 cases x with
 |ptr id o=>
  simp only[Jq]at hv
  simp only[Qc]at hu
  obtain⟨b,e,E,hs,rfl⟩:=hu
  split at hv
  ·rename_i cs hid
   obtain⟨us,k1,k2,k3⟩:=Gk h hid hs
   have hcell:∀i v,((us.drop o).take sz)[i]? =some v→w.cell? ⟨b,o+i,none⟩=some v:=fun i v hv=>by
    rw[List.getElem?_take]at hv
    split at hv
    ·rw[List.getElem?_drop]at hv;exact k3 _ _ hv
    ·simp at hv
   cases g with
   |true=>
    simp only[if_true]at hv
    split at hv
    ·rename_i hle
     simp only[cA]at hv;subst hv
     refine⟨.agg ((us.drop o).take sz).toArray,?_,Su (Qi.take _ (Qi.drop _ k1))⟩
     simp only[Instr.loadAt,Instr.sureAddr,Sem.run_bind,Sem.run_pure,Result.andThen_ok]
     exact Xw (g:=true) ht (by simp;omega) hcell
    ·simp at hv
   |false=>
    simp only[cB,if_false]at hv
    obtain⟨r,hr,hrr⟩:=Qi.get k1 o v hv
    have hsz:=h3 rfl
    subst hsz
    have hlt:o<us.length:=by
     rcases fH o us.length with h'|h'
     ·exact h'
     ·simp [fL h']at hr
    have e1:(us.drop o).take 1=[r]:=by
     rw[dP hlt]
     simp only[List.take_succ_cons,List.take_zero]
     rw[dY hlt]at hr
     simpa using hr
    refine⟨r,?_,hrr⟩
    simp only[Instr.loadAt,Instr.sureAddr,Sem.run_bind,Sem.run_pure,Result.andThen_ok]
    have:=Xw (P:=P) (w:=w) (g:=false) (b:=b) (o:=o) (us:=(us.drop o).take 1) ht (by simp;omega) hcell
    rw[e1]at this
    simpa using this
  ·simp at hv
 |iptr cs=>
  simp only[Jq]at hv
  simp only[Qc]at hu
  obtain⟨b,o,rfl,hc⟩:=hu
  obtain⟨us,k1,k2,k3⟩:=W4 h cs o hc
  have hcell:∀i v,(us.take sz)[i]? =some v→w.cell? ⟨b,o+i,none⟩=some v:=fun i v hv=>by
   rw[List.getElem?_take]at hv
   split at hv
   ·exact k3 _ _ hv
   ·simp at hv
  cases g with
  |true=>
   simp only[if_true]at hv
   split at hv
   ·rename_i hle
    simp only[cA]at hv;subst hv
    refine⟨.agg (us.take sz).toArray,?_,Su (Qi.take _ k1)⟩
    simp only[Instr.loadAt,Instr.sureAddr,Sem.run_bind,Sem.run_pure,Result.andThen_ok]
    exact Xw (g:=true) ht (by simp;omega) hcell
   ·simp at hv
  |false=>
   simp only[cB,if_false]at hv
   obtain⟨r,hr,hrr⟩:=Qi.get k1 0 v hv
   have hsz:=h3 rfl
   subst hsz
   cases us with
   |nil=>simp at hr
   |cons y ys=>
    simp at hr;subst hr
    refine⟨y,?_,hrr⟩
    simp only[Instr.loadAt,Instr.sureAddr,Sem.run_bind,Sem.run_pure,Result.andThen_ok]
    have:=Xw (P:=P) (w:=w) (g:=false) (b:=b) (o:=o) (us:=(y::ys).take 1) ht (by simp) hcell
    simpa using this
 |_=>simp [Jq]at hv
def Tw (κ:Kn):Option AV→Option (Nat×Value)→Prop
 |none,none=>True
 |some a,some (_,v)=>Qc κ a v
 |_,_=>False
theorem WM:∀(es:List (AV×AV)) (l:List MapEntry) (d:TypeDesc) (k:AV) (u:Value) (i:Nat) (r:Option AV),Yj κ es l→Qc κ k u→VN k es=some r→
 (∀q x,k=.raw (.int q x)→∃q',d=.int q')→(∀x,k=.str x→d=.string)→(∃q x,k=.raw (.int q x))∨(∃x,k=.str x)∨es=[]→
 ∃y:Option (Nat×Value),Instr.findNow d u l i=some y∧Tw κ r y
 |[],l,d,k,u,i,r,hl,_,hf,_,_,_=>by
  simp only[Yj]at hl;subst hl
  have hr:r=none:=by
   simp only[VN,cA]at hf
   exact hf.symm
  subst hr
  exact⟨none,rfl,trivial⟩
 |(k',v')::es,l,d,k,u,i,r,hl,hu,hf,h1,h2,h3=>by
  simp only[Yj]at hl
  obtain⟨x,xs,rfl,hk',hv',hxs⟩:=hl
  unfold VN at hf
  split at hf
  ·rename_i heq;simp at heq
  ·rename_i a b v es' heq
   simp only[fQ,cW]at heq
   obtain⟨⟨rfl,rfl⟩,rfl⟩:=heq
   have hd:=h2 a rfl
   subst hd
   simp only[Qc]at hu hk'
   subst hu
   unfold Instr.findNow
   rw[hk']
   simp only[Instr.sameNow,GF]
   split at hf
   ·rename_i hab
    simp only[cA]at hf;subst hf
    simp only[hab]
    exact⟨_,rfl,hv'⟩
   ·rename_i hab
    simp only[cP]at hab
    simp only[hab]
    exact WM es xs .string (.str a) _ (i+1) r hxs (by simp only[Qc]) hf (fun _ _ h=>by cases h) (fun _ _=>rfl) (.inr (.inl ⟨a,rfl⟩))
  ·rename_i q a q' b v es' heq
   simp only[fQ,cW]at heq
   obtain⟨⟨rfl,rfl⟩,rfl⟩:=heq
   obtain⟨q0,hd⟩:=h1 q a rfl
   subst hd
   simp only[Qc]at hu hk'
   subst hu
   unfold Instr.findNow
   rw[hk']
   simp only[Instr.sameNow]
   split at hf
   ·rename_i hqq
    rw[fC hqq]
    split at hf
    ·rename_i hab
     simp only[cA]at hf;subst hf
     simp only[hab]
     exact⟨_,rfl,hv'⟩
    ·rename_i hab
     simp only[cP]at hab
     simp only[hab]
     exact WM es xs (.int q0) (.raw (.int q a)) _ (i+1) r hxs (by simp only[Qc]) hf (fun _ _ _=>⟨_,rfl⟩) (fun _ h=>by cases h) (.inl ⟨q,a,rfl⟩)
   ·simp at hf
  ·simp at hf
end
section
variable {P:Program}{G:Nat→Option (List AV)}{κ:Kn}{A:Q3}{w:World}
theorem Lj {t:TypeId}{sz:Nat}{g:Bool}(ht:Kh P t=some (sz,g)){cs:List AV}{xs:Array Value}(hr:Qi κ cs xs.toList){o:Nat}{v:AV}
 (hv:(if g then some (.agg ((cs.drop o).take sz))else cs[o]?)=some v):∃r,(part t xs o).run P w=.ok r w∧Qc κ v r:=by
 obtain⟨h1,h2,h3⟩:=WO (P:=P) (w:=w) ht
 unfold part
 simp only[Sem.run_bind,h1,Result.andThen_ok]
 cases g with
 |true=>
  simp only[if_true,cA]at hv;subst hv
  refine⟨.agg (xs.extract o (o+sz)),by simp [h2],?_⟩
  simp only[Qc]
  refine⟨_,rfl,?_⟩
  have:=Qi.take sz (Qi.drop o hr)
  simpa[List.extract_eq_take_drop]using this
 |false=>
  simp only[cB,if_false]at hv
  obtain⟨r,hr1,hr2⟩:=Qi.get hr o v hv
  refine⟨r,?_,hr2⟩
  have:xs[o]? =some r:=by simpa using hr1
  simp [this]
theorem UW {o:Option AV}{o':Option Value}{n:Int}{d:Int}(h1:∀a,o=some a→∃u,o'=some u∧Qc κ a u)(h0:o=none→o'=none)(hn:J2 d o=some n):
 (o'=none∧n=d)∨∃q,o'=some (.int q n):=by
 cases o with
 |none=>simp only[J2,cA]at hn;exact .inl ⟨h0 rfl,hn.symm⟩
 |some a=>
  obtain⟨u,rfl,hu⟩:=h1 a rfl
  simp only[J2]at hn
  unfold Js at hn
  split at hn
  ·simp only[cA]at hn;subst hn
   simp only[Qc]at hu;subst hu
   exact .inr ⟨_,rfl⟩
  ·simp at hn
theorem Rx {s:List UInt8}{lo hi:Option AV}{lo' hi':Option Value}{v:AV}{t:TypeId}(ht:P.underlying t=some .string)(hlo:∀a,lo=some a→∃u,lo'=some u∧Qc κ a u)(hlo0:lo=none→lo'=none)
 (hhi:∀a,hi=some a→∃u,hi'=some u∧Qc κ a u)(hhi0:hi=none→hi'=none)(hv:Jn s lo hi=some v):∃r,(Instr.sliceAt t (.string ⟨s.toArray⟩) lo' hi' none).run P w=.ok r w∧Qc κ v r:=by
 have hsz:(⟨s.toArray⟩:ByteArray).size=s.length:=by simp [ByteArray.size]
 unfold Jn at hv
 split at hv
 ·rename_i h l hh hl
  split at hv
  ·rename_i hc
   simp only[cA]at hv;subst hv
   obtain⟨h0,h1,h2⟩:=hc
   refine⟨.string ((⟨s.toArray⟩:ByteArray).extract l.toNat h.toNat),?_,?_⟩
   ·unfold Instr.sliceAt
    simp only[Sem.run_bind,run_underlying ht,Result.andThen_ok]
    unfold Instr.slice
    simp only[Sem.run_bind,run_underlying ht,Result.andThen_ok]
    unfold Instr.sliceBounds
    rcases UW hhi hhi0 hh with⟨rfl,e1⟩|⟨q,rfl⟩ <;> rcases UW hlo hlo0 hl with⟨rfl,e2⟩|⟨q',rfl⟩
    ·subst e1 e2
     simp [hsz]
    ·subst e1
     have c1:(0≤l∧l≤((⟨s.toArray⟩:ByteArray).size:Int)):=by rw[hsz];omega
     have c2:¬((s.length:Int)<l):=by omega
     simp [Instr.sliceBound,asIntOf,c1,hsz]
     intro c3
     exact absurd c3 c2
    ·subst e2
     have c1:(0≤h∧h≤((⟨s.toArray⟩:ByteArray).size:Int)):=by rw[hsz];omega
     simp [Instr.sliceBound,asIntOf,c1]
    ·have c1:(0≤h∧h≤((⟨s.toArray⟩:ByteArray).size:Int)):=by rw[hsz];omega
     have c2:(0≤l∧l≤((h.toNat:Nat):Int)):=by omega
     have c3:l≤max h 0:=by omega
     simp [Instr.sliceBound,asIntOf,c1,h0,c3]
   ·simp only[Qc,Go.Lib.extract_eq]
  ·simp at hv
 ·simp at hv
theorem Vd (b o n:Nat):(⟨b,o,none⟩:Addr).add n=⟨b,o+n,none⟩:=by
 unfold Addr.add
 split
 ·rename_i h;subst h;rfl
 ·rfl
theorem RT {sz n:Nat}{cs:List AV}{tip:Option Nat}{x:Value}{lo hi:Option AV}{lo' hi':Option Value}{v:AV}{t e:TypeId}{inf:TypeInfo}(ht:P.underlying t=some (.slice e))(hi0:P.info? e=some inf)(hsz:sz=inf.size)
 (hx:Qc κ (.slice sz n cs tip) x)(hlo:∀a,lo=some a→∃u,lo'=some u∧Qc κ a u)(hlo0:lo=none→lo'=none)
 (hhi:∀a,hi=some a→∃u,hi'=some u∧Qc κ a u)(hhi0:hi=none→hi'=none)(hv:Tc sz n cs tip lo hi=some v):∃r,(Instr.sliceAt t x lo' hi' none).run P w=.ok r w∧Qc κ v r:=by
 subst hsz
 simp only[Qc]at hx
 rcases hx with⟨rfl,rfl,rfl,a,rfl⟩|⟨b,o,cap,rfl,hcap,hlen,hc,htp⟩
 ·unfold Tc at hv
  split at hv
  ·rename_i h l hh hl
   split at hv
   ·rename_i hcc
    simp only[cA]at hv;subst hv
    obtain⟨h0,h1,h2⟩:=hcc
    have eh:h=0:=by omega
    have el:l=0:=by omega
    subst eh;subst el
    refine⟨.slice a 0 0,?_,by simp [Qc]⟩
    have key:(Instr.sliceBounds true 0 0 lo' hi' none).run P w=.ok (0,0,0) w→(Instr.sliceAt t (.slice a 0 0) lo' hi' none).run P w=.ok (.slice a 0 0) w:=fun hr=>by
     unfold Instr.sliceAt
     simp only[Sem.run_bind,run_underlying ht,Result.andThen_ok]
     unfold Instr.slice
     simp only[Sem.run_bind,run_underlying ht,Result.andThen_ok,hr]
     cases a <;> simp [sizeOf,typeInfo,hi0]
    unfold Instr.sliceBounds at key
    rcases UW hhi hhi0 hh with⟨rfl,e1⟩|⟨q,rfl⟩ <;> rcases UW hlo hlo0 hl with⟨rfl,e2⟩|⟨q',rfl⟩ <;> exact key (by simp [Instr.sliceBound,asIntOf])
   ·simp at hv
  ·simp at hv
 unfold Tc at hv
 split at hv
 ·rename_i h l hh hl
  split at hv
  ·rename_i hcc
   simp only[cA]at hv;subst hv
   obtain⟨h0,h1,h2⟩:=hcc
   refine⟨.slice (if cap=l.toNat then some ⟨b,o,none⟩else some ⟨b,o+l.toNat*inf.size,none⟩) (h.toNat - l.toNat) (cap - l.toNat),?_,?_⟩
   ·have key:∀lv hv',(Instr.sliceBounds true n cap lo' hi' none).run P w=.ok (lv,hv',cap) w→lv=l.toNat→hv'=h.toNat→
     (Instr.sliceAt t (.slice (some ⟨b,o,none⟩) n cap) lo' hi' none).run P w=.ok (.slice (if cap=l.toNat then some ⟨b,o,none⟩else some ⟨b,o+l.toNat*inf.size,none⟩) (h.toNat - l.toNat) (cap - l.toNat)) w:=fun lv hv' hr e1 e2=>by
     subst e1 e2
     unfold Instr.sliceAt
     simp only[Sem.run_bind,run_underlying ht,Result.andThen_ok]
     unfold Instr.slice
     simp only[Sem.run_bind,run_underlying ht,Result.andThen_ok,hr]
     simp [sizeOf,typeInfo,hi0]
     split
     ·rfl
     ·rw[Vd]
    unfold Instr.sliceBounds at key
    rcases UW hhi hhi0 hh with⟨rfl,e1⟩|⟨q,rfl⟩ <;> rcases UW hlo hlo0 hl with⟨rfl,e2⟩|⟨q',rfl⟩
    ·subst e1 e2
     exact key 0 n (by simp) (by simp) (by simp)
    ·subst e1
     have c1:(0≤l∧l≤(n:Int)):=by omega
     exact key l.toNat n (by simp [Instr.sliceBound,asIntOf,c1]) rfl (by simp)
    ·subst e2
     have c1:(0≤h∧h≤(cap:Int)):=by omega
     exact key 0 h.toNat (by simp [Instr.sliceBound,asIntOf,c1]) (by simp) rfl
    ·have c1:(0≤h∧h≤(cap:Int)):=by omega
     have c3:l≤max h 0:=by omega
     exact key l.toNat h.toNat (by simp [Instr.sliceBound,asIntOf,c1,h0,c3]) rfl rfl
   ·have hlh:l.toNat≤h.toNat:=by omega
    have hhn:h.toNat≤n:=by omega
    have e0:((cs.drop (l.toNat*inf.size)).take ((h.toNat - l.toNat)*inf.size)).length=(h.toNat - l.toNat)*inf.size:=by
     rw[lJ,dW,hlen,←Nat.sub_mul]
     apply Nat.min_eq_left
     exact fF _ (by omega)
    simp only[Qc]
    by_cases hcl:cap=l.toNat
    ·rw[fC hcl]
     have e1:h.toNat - l.toNat=0:=by omega
     refine .inr ⟨b,o,cap - l.toNat,rfl,by omega,e0,?_,fun t0 ht0=> ?_⟩
     ·rw[e1];simp [Zx]
     ·rw[fD (by omega)]at ht0;simp at ht0
    ·rw[fD hcl]
     refine .inr ⟨b,o+l.toNat*inf.size,cap - l.toNat,rfl,by omega,e0,Zx.take _ (Zx.drop _ hc),fun t0 ht0=> ?_⟩
     split at ht0
     ·rename_i hc2
      have:=htp t0 ht0
      rw[this]
      have e3:h.toNat=n:=by omega
      rw[e3,Nat.sub_mul,Nat.sub_mul]
      have q1:l.toNat*inf.size≤n*inf.size:=fF _ (by omega)
      have q2:l.toNat*inf.size≤cap*inf.size:=fF _ (by omega)
      simp only[cA,cW,true_and]
      omega
     ·simp at ht0
  ·simp at hv
 ·simp at hv
theorem OL {α β:Type}(f:α→Option β):∀(l:List α) (r:List β),l.mapM f=some r→l.length=r.length∧∀(i:Nat) (a:α) (b:β),l[i]? =some a→r[i]? =some b→f a=some b
 |[],r,h=>by simp at h;subst h;simp
 |a::l,r,h=>by
  simp only[List.mapM_cons]at h
  cases ha:f a with
  |none=>simp [ha]at h
  |some b=>
   cases hl:l.mapM f with
   |none=>simp [ha,hl]at h
   |some bs=>
    simp [ha,hl]at h
    subst h
    obtain⟨h1,h2⟩:=OL f l bs hl
    refine⟨by simp [h1],fun i x y hx hy=> ?_⟩
    cases i with
    |zero=>simp at hx hy;subst hx hy;exact ha
    |succ i=>exact h2 i x y (by simpa using hx) (by simpa using hy)
theorem Ry (h:Rel G κ A w){env:Qo}{a:Act}(he:YX κ env a.tmps){t:TypeId}{fs:Array Field}{z:Value}{parts:Array (Nat×Operand)}{ps:List (Nat×Nat×Operand)}{v:AV}
 (ht:P.underlying t=some (.struct fs))(hz:VF P t=some z)(hall:fs.toList.all (fun f=>(P.info? f.type).isSome)=true)
 (hps:(parts.toList.mapM fun(i,x)=>do let f←fs[i]?;some (f.offset,P.cellsOf f.type,x))=some ps)
 (hv:(VP (z.cells.toList.map Ze) (ps.map fun(o,s,x)=>(o,s,Qs G env x))).map .agg=some v):
 ∃r,(Instr.build t (parts.map fun(i,x)=>(i,a.eval x))).run P w=.ok r w∧Qc κ v r:=by
 simp only[cG]at hv
 obtain⟨cs',hf,rfl⟩:=hv
 have hplaces:(fs.mapM (fun f=>(do pure (f.offset,←sizeOf f.type):Sem (Nat×Nat)))).run P w=.ok (fs.map fun f=>(f.offset,P.cellsOf f.type)) w:=by
  have key:∀l:List Field,l.all (fun f=>(P.info? f.type).isSome)=true→(l.mapM (fun f=>(do pure (f.offset,←sizeOf f.type):Sem (Nat×Nat)))).run P w=.ok (l.map fun f=>(f.offset,P.cellsOf f.type)) w:=by
   intro l
   induction l with
   |nil=>intro _;simp
   |cons f l ih=>
    intro hl
    simp only[dU,cD]at hl
    obtain⟨i,hi⟩:=fU.1 hl.1
    have hs:(sizeOf f.type).run P w=.ok i.size w:=by simp [sizeOf,typeInfo,hi]
    simp only[List.mapM_cons,Sem.run_bind,hs,Result.andThen_ok,Sem.run_pure,ih hl.2]
    simp [Program.cellsOf,hi]
  rw[←Array.toArray_toList (xs:=fs),List.mapM_toArray]
  simp only[Sem.run_map,key _ hall,Result.andThen_ok]
  congr 1
  apply dN.1
  simp
 have hlen:=(OL _ _ _ hps).1
 have hrel:=(OL _ _ _ hps).2
 obtain⟨cells',k1,k2⟩:=Kk (κ:=κ) ((fs.map fun f=>(f.offset,P.cellsOf f.type))[·]?) (parts.map fun(i,x)=>(i,a.eval x)).toList (ps.map fun(o,s,x)=>(o,s,Qs G env x)) _ cs' z.cells (Wm κ _) (by simp at hlen⊢;exact hlen)
  (fun i p q hp hq=>by
   simp only[Array.toList_map,List.getElem?_map,cG]at hp hq
   obtain⟨⟨i0,x0⟩,hp1,rfl⟩:=hp
   obtain⟨⟨o1,s1,x1⟩,hq1,rfl⟩:=hq
   have:=hrel i _ _ hp1 hq1
   simp only at this
   cases hfi:fs[i0]? with
   |none=>simp [hfi]at this
   |some f=>
    simp [hfi]at this
    obtain⟨rfl,rfl,rfl⟩:=this
    exact⟨by simp [hfi],QI h he x0⟩) hf
 refine⟨.agg cells',?_,by simp only[Qc];exact⟨_,rfl,k2⟩⟩
 unfold VF at hz
 cases hi:P.info? t with
 |none=>simp [hi]at hz
 |some inf=>
  simp [hi]at hz
  unfold Instr.build
  simp only[Sem.run_bind,zeroValue,typeInfo,run_program,Result.andThen_ok,hi,Sem.run_pure,hz,run_underlying ht,hplaces]
  simp only[k1,Sem.run_pure]
theorem RX (h:Rel G κ A w){env:Qo}{a:Act}(he:YX κ env a.tmps){t e:TypeId}{n:Nat}{z:Value}{parts:Array (Nat×Operand)}{v:AV}
 (ht:P.underlying t=some (.array n e))(hz:VF P t=some z)(hall:(P.info? e).isSome=true)
 (hv:(VP (z.cells.toList.map Ze) ((parts.toList.map fun(i,x)=>(i*P.cellsOf e,P.cellsOf e,x)).map fun(o,s,x)=>(o,s,Qs G env x))).map .agg=some v):
 ∃r,(Instr.build t (parts.map fun(i,x)=>(i,a.eval x))).run P w=.ok r w∧Qc κ v r:=by
 simp only[cG]at hv
 obtain⟨cs',hf,rfl⟩:=hv
 obtain⟨ie,hie⟩:=fU.1 hall
 have hcs:P.cellsOf e=ie.size:=by simp [Program.cellsOf,hie]
 obtain⟨cells',k1,k2⟩:=Kk (κ:=κ) (fun i=>some (i*ie.size,ie.size)) (parts.map fun(i,x)=>(i,a.eval x)).toList _ _ cs' z.cells (Wm κ _) (by simp)
  (fun i p q hp hq=>by
   simp only[Array.toList_map,List.map_map,List.getElem?_map,cG]at hp hq
   obtain⟨⟨i0,x0⟩,hp1,rfl⟩:=hp
   obtain⟨⟨i1,x1⟩,hq1,rfl⟩:=hq
   rw[hp1]at hq1
   simp only[cA,cW]at hq1
   obtain⟨rfl,rfl⟩:=hq1
   exact⟨by simp [hcs],QI h he x0⟩) hf
 refine⟨.agg cells',?_,by simp only[Qc];exact⟨_,rfl,k2⟩⟩
 unfold VF at hz
 cases hi:P.info? t with
 |none=>simp [hi]at hz
 |some inf=>
  simp [hi]at hz
  unfold Instr.build
  simp only[Sem.run_bind,zeroValue,typeInfo,run_program,Result.andThen_ok,hi,Sem.run_pure,hz,run_underlying ht,sizeOf,hie]
  simp only[k1,Sem.run_pure]
end
end Go.Ax
