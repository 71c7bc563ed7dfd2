/- Part 3 of the proof. -/
import Derived.Test.YtcbjbgaefighcaaGreatDoorT0
import Derived.Test.YtcbjbgaefighcaaGreatDoorT2
import Derived.WideLaws
import Derived.Lib.FrozenHead
set_option linter.all false
namespace Go.Ax
open Go
section
variable {P:Program}{G:Nat→Option (List AV)}{κ:Kn}{A:Q3}{w:World}
theorem Zj {s:Sem Value}{u:Value}(h:s.run P w=.ok u w):(do pure (Next.value (←s)):Sem Next).run P w=.ok (.value u) w:=by
 simp [h]
theorem Iu {a:Addr}{f:Field}(h0:P.cellsOf f.type≠0)(hi:(P.info? f.type).isSome=true):(fieldPlace a f).run P w=.ok (a.add f.offset) w:=by
 obtain⟨i,hi⟩:=fU.1 hi
 have:i.size≠0:=by simpa[Program.cellsOf,hi]using h0
 unfold fieldPlace
 simp [sizeOf,typeInfo,hi,this]
theorem Cu {n:Nat}{cs:List AV}{tip:Option Nat}{u:Value}{l:List UInt8}(h:Rel G κ A w)(hu:Qc κ (.slice 1 n cs tip) u)(hn:cs.length=n)(hb:UN cs=some l):(Conv.bytesToString u).run P w=.ok (.string ⟨l.toArray⟩) w:=by
 simp only[Qc]at hu
 rcases hu with⟨_,rfl,rfl,a,rfl⟩|⟨b,o,cap,rfl,_,_,hc,_⟩
 ·simp only[UN,cA]at hb;subst hb
  cases a with
  |none=>rfl
  |some a=>simp [Conv.bytesToString,loadCells,loadCellsFrom];try rfl
 obtain⟨us,k1,k2,k3⟩:=W4 h cs o hc
 have hload:(loadCells ⟨b,o,none⟩ n).run P w=.ok us.toArray w:=by
  rw[←hn,←k2]
  exact run_loadCells_list (P:=P) (w:=w) ⟨b,o,none⟩ us fun j v hv=>by rw[Vd];exact k3 j v hv
 unfold Conv.bytesToString
 simp only[Sem.run_bind,hload,Result.andThen_ok]
 have hloop:∀(X:Sem PUnit) (us:List Value) (cs:List AV) (l:List UInt8) (s:ByteArray),Qi κ cs us→UN cs=some l→
  (forIn us s (fun(c:Value) (s:ByteArray)=>(match c with
   | .int .u8 n=>pure (ForInStep.yield (s.push (UInt8.ofNat n.toNat)))
   |_=>(do X;pure (ForInStep.yield s)):Sem (ForInStep ByteArray)))).run P w=.ok ⟨(s.data.toList++l).toArray⟩ w:=by
  intro X us
  induction us with
  |nil=>
   intro cs l s hr hb
   cases cs with
   |nil=>simp only[UN,cA]at hb;subst hb;simp
   |cons c cs=>simp [Qi]at hr
  |cons x us ih=>
   intro cs l s hr hb
   cases cs with
   |nil=>simp [Qi]at hr
   |cons c cs=>
    simp only[Qi,fQ]at hr
    obtain⟨x',xs',⟨rfl,rfl⟩,h2,h3⟩:=hr
    unfold UN at hb
    split at hb
    ·rename_i heq;simp at heq
    ·rename_i n r heq
     simp only[fQ]at heq
     obtain⟨rfl,rfl⟩:=heq
     simp only[cG]at hb
     obtain⟨l',hl',rfl⟩:=hb
     simp only[Qc]at h2;subst h2
     simp only[List.forIn_cons,Sem.run_bind,Sem.run_pure,Result.andThen_ok]
     rw[ih cs l' _ h3 hl']
     simp
    ·simp at hb
 rw[List.forIn_toArray]
 refine(congrArg (fun r:Result ByteArray=>r.andThen fun a w'=>(pure (Value.string a):Sem Value).run P w') (hloop _ us cs l ByteArray.empty k1 hb)).trans ?_
 simp
def LK.desc:LK→TypeDesc→Prop
 | .str,d=>d=.string
 | .slice,d=>∃e,d=.slice e
 | .map,d=>∃a b,d=.map a b
 | .arr n,d=>∃e,d=.array n e
theorem TS {id b e E off:Nat}(h:κ.s id=some (b,e,E)):Qc κ (.ptr id off) (.pointer (some ⟨b,off,none⟩)):=by simp only[Qc];exact⟨_,_,_,h,rfl⟩
theorem Ia:∀{es:List (AV×AV)} {l:List MapEntry},Yj κ es l→l.length=es.length
 |[],_,h=>by simp only[Yj]at h;simp [h]
 |(_,_)::_,_,h=>by
  simp only[Yj]at h
  obtain⟨x,xs,rfl,_,_,h4⟩:=h
  simp [Ia h4]
theorem Gr (h:Rel G κ A w){k:LK}{d:TypeDesc}{t ty:TypeId}{tys:Array TypeId}{x:AV}{u:Value}{n:Int}(hk:k.desc d)(ht:P.underlying t=some d)(hu:Qc κ x u)(hn:Y4 A k x=some n)(h0:tys[0]? =some t):
 (Builtin.len_ tys ty #[u]).run P w=.ok (.int .i64 n) w:=by
 unfold Builtin.len_
 cases k <;> simp only[LK.desc]at hk
 ·subst hk
  simp only[Y4]at hn
  split at hn
  ·simp only[cA]at hn;subst hn
   simp only[Qc]at hu;subst hu
   rename_i s
   have hsz:(⟨s.toArray⟩:ByteArray).size=s.length:=by simp [ByteArray.size]
   simp [h0,run_underlying ht,goInt,hsz]
  ·simp at hn
 ·obtain⟨e,rfl⟩:=hk
  simp only[Y4]at hn
  split at hn
  ·simp only[cA]at hn;subst hn
   simp only[Qc]at hu
   rcases hu with⟨_,rfl,rfl,a,rfl⟩|⟨b,o,cap,rfl,_⟩ <;> simp [h0,run_underlying ht,goInt]
  ·simp only[cA]at hn;subst hn
   simp only[Qc]at hu;subst hu
   simp [h0,run_underlying ht,goInt]
  ·simp at hn
 ·obtain⟨e,e',rfl⟩:=hk
  simp only[Y4]at hn
  split at hn
  ·simp only[cA]at hn;subst hn
   simp only[Qc]at hu;subst hu
   simp [h0,run_underlying ht,goInt]
  ·split at hn
   ·rename_i id _ es hes
    simp only[cA]at hn;subst hn
    simp only[Qc]at hu
    obtain⟨mb,me,mE,hs,rfl⟩:=hu
    obtain⟨b',e',E',k1,k2⟩:=h.obj id _ hes
    rw[hs]at k1;simp only[cA,cW]at k1;obtain⟨rfl,rfl,rfl⟩:=k1
    obtain⟨⟨l,c,hl1,hl2,_⟩,_⟩:=k2
    have hget:(getObj mb).run P w=.ok (.map l c) w:=run_getObj_map (P:=P) w mb l c hl1
    have:=Ia hl2
    simp only[dR]at this
    simp [h0,run_underlying ht,goInt,hget,this]
   ·simp at hn
  ·simp at hn
 ·obtain⟨e,rfl⟩:=hk
  simp only[Y4,cA]at hn;subst hn
  simp [h0,run_underlying ht,goInt]
set_option maxHeartbeats 1000000 in
theorem RP (h:Rel G κ A w){env:Qo}{a:Act}(he:YX κ env a.tmps){o:Oper}{lo:LOp}(hl:Ot P o=some lo){v:AV}(hv:Qw G env A lo=some v):
 ∃u,(execOp a.eval o).run P w=.ok (.value u) w∧Qc κ v u:=by
 obtain⟨dst,op,ty,pos,aft,gd⟩:=o
 unfold Ot at hl
 split at hl
 ·rename_i x heq
  simp only at heq;subst heq
  simp only[cA]at hl;subst hl
  simp only[Qw,cA]at hv;subst hv
  exact⟨_,rfl,QI h he x⟩
 ·rename_i x heq
  simp only at heq;subst heq
  simp only[cA]at hl;subst hl
  simp only[Qw,cA]at hv;subst hv
  exact⟨_,rfl,QI h he x⟩
 ·rename_i x heq
  simp only at heq;subst heq
  simp only[cA]at hl;subst hl
  have hx:=QI h he x
  simp only[Qw]at hv
  generalize Qs G env x=xa at hx hv
  split at hv
  ·simp only[cA]at hv;subst hv
   have h0:=hx
   simp only[Qc]at h0;obtain⟨b,e,E,_,h1⟩:=h0
   exact⟨_,by simp [execOp,h1],h1▸hx⟩
  ·simp only[cA]at hv;subst hv
   have h0:=hx
   simp only[Qc]at h0;obtain⟨b,e,h1,_⟩:=h0
   exact⟨_,by simp [execOp,h1],h1▸hx⟩
  ·simp only[cA]at hv;subst hv
   have h0:=hx
   simp only[Qc]at h0;obtain⟨b,e,h1,_⟩:=h0
   exact⟨_,by simp [execOp,h1],h1▸hx⟩
  ·simp at hv
 ·rename_i c x y heq
  simp only at heq;subst heq
  simp only[cA]at hl;subst hl
  have hc:=QI h he c
  simp only[Qw]at hv
  split at hv
  ·rename_i t hct
   rw[hct]at hc
   simp only[Qc]at hc
   simp only[cA]at hv;subst hv
   refine⟨if t then a.eval x else a.eval y,?_,?_⟩
   ·cases t <;> simp [execOp,hc,asBool]
   ·cases t
    ·exact QI h he y
    ·exact QI h he x
  ·simp at hv
 ·rename_i bop t x y yt heq
  simp only at heq;subst heq
  simp only[cG]at hl
  obtain⟨k,hk,rfl⟩:=hl
  simp only[Qw]at hv
  obtain⟨r,hr,hr'⟩:=MU (P:=P) (w:=w) hk (QI h he x) (QI h he y) hv
  refine⟨r,?_,hr'⟩
  simp only[execOp]
  exact Zj hr
 ·rename_i uop t x heq
  simp only at heq;subst heq
  simp only[cA]at hl;subst hl
  simp only[Qw]at hv
  obtain⟨r,hr,hr'⟩:=Rw (P:=P) (w:=w) (QI h he x) hv
  refine⟨r,?_,hr'⟩
  simp only[execOp]
  exact Zj hr
 ·rename_i s d x heq
  simp only at heq;subst heq
  have hx:=QI h he x
  split at hl
  ·rename_i k1 k2 hs hd
   simp only[cA]at hl;subst hl
   simp only[Qw]at hv
   split at hv
   ·rename_i k n hxa
    rw[hxa]at hx
    simp only[Qc]at hx
    simp only[cA]at hv;subst hv
    refine⟨_,?_,Jy⟩
    simp only[execOp]
    exact Zj (by simp [convert,run_underlying hs,run_underlying hd,hx,Conv.intToInt])
   ·simp at hv
  ·rename_i hs hd
   simp only[cA]at hl;subst hl
   simp only[Qw]at hv
   split at hv
   ·rename_i n hxa
    rw[hxa]at hx
    simp only[Qc]at hx
    simp only[cA]at hv;subst hv
    refine⟨_,?_,LO⟩
    simp only[execOp]
    exact Zj (by simp [convert,run_underlying hs,run_underlying hd,hx])
   ·simp at hv
  ·rename_i e hs hd
   split at hl
   ·rename_i hsu
    simp only[cA]at hl;subst hl
    simp only[Qw]at hv
    split at hv
    ·rename_i n c hxa
     rw[hxa]at hx
     simp only[Qc]at hx
     simp only[cA]at hv;subst hv
     refine⟨_,?_,LO⟩
     simp only[execOp]
     exact Zj (by simp [convert,run_underlying hs,run_underlying hd,run_underlying hsu,hx,Conv.bytesToString];rfl)
    ·rename_i n cs tip hxa
     rw[hxa]at hx
     split at hv
     ·rename_i hn
      simp only[cG]at hv
      obtain⟨l,hl,rfl⟩:=hv
      refine⟨_,?_,LO⟩
      have h0:=hx
      simp only[Qc]at h0
      have h0:∃q m cap,a.eval x=.slice q m cap:=by
       rcases h0 with⟨_,_,_,_,h1⟩|⟨b,o,cap,h1,_⟩ <;> exact⟨_,_,_,h1⟩
      obtain⟨q,m,cap,h1⟩:=h0
      have:=Cu (P:=P) h hx hn hl
      simp only[execOp]
      exact Zj (by rw[h1]at this⊢;simp [convert,run_underlying hs,run_underlying hd,run_underlying hsu,this])
     ·simp at hv
    ·simp at hv
   ·simp at hl
  ·simp at hl
 ·rename_i s x f heq
  simp only at heq;subst heq
  have hx:=QI h he x
  split at hl
  ·rename_i fs hs
   split at hl
   ·rename_i fl hf
    split at hl
    ·simp at hl
    ·rename_i h0
     split at hl
     ·rename_i hi
      simp only[cA]at hl;subst hl
      simp only[Qw]at hv
      split at hv
      ·rename_i id o hxa
       rw[hxa]at hx
       simp only[Qc]at hx
       obtain⟨b,e,E,h1,h2⟩:=hx
       simp only[cA]at hv;subst hv
       refine⟨.pointer (some ⟨b,o+fl.offset,none⟩),?_,by simp only[Qc];exact⟨b,e,E,h1,rfl⟩⟩
       simp only[execOp]
       exact Zj (by simp [Instr.fieldAt,run_underlying hs,hf,h2,Instr.sureAddr,Iu h0 hi,Vd])
      ·rename_i cs hxa
       rw[hxa]at hx
       simp only[Qc]at hx
       obtain⟨b,o,h2,h1⟩:=hx
       simp only[cA]at hv;subst hv
       refine⟨.pointer (some ⟨b,o+fl.offset,none⟩),?_,by simp only[Qc];exact⟨b,_,rfl,Zx.drop _ h1⟩⟩
       simp only[execOp]
       exact Zj (by simp [Instr.fieldAt,run_underlying hs,hf,h2,Instr.sureAddr,Iu h0 hi,Vd])
      ·simp at hv
     ·simp at hl
   ·simp at hl
  ·simp at hl
 ·rename_i s x f heq
  simp only at heq;subst heq
  have hx:=QI h he x
  split at hl
  ·rename_i fs hs
   split at hl
   ·rename_i fl hf
    simp only[cG]at hl
    obtain⟨⟨sz,g⟩,hg,rfl⟩:=hl
    simp only[Qw]at hv
    split at hv
    ·rename_i cs hxa
     rw[hxa]at hx
     simp only[Qc]at hx
     obtain⟨xs,h2,h1⟩:=hx
     obtain⟨r,hr,hr'⟩:=Lj (P:=P) (w:=w) hg h1 hv
     refine⟨r,?_,hr'⟩
     simp only[execOp]
     exact Zj (by simp [Instr.field,run_underlying hs,hf,h2,asAgg,hr])
    ·simp at hv
   ·simp at hl
  ·simp at hl
 ·rename_i t x i heq
  simp only at heq;subst heq
  have hx:=QI h he x
  have hi:=QI h he i
  split at hl
  ·rename_i n e ht
   split at hl
   ·simp at hl
   ·rename_i hn
    split at hl
    ·rename_i j hj
     simp only[cA]at hl;subst hl
     simp only[Qw]at hv
     split at hv
     ·rename_i id o k m hxa hia
      rw[hxa]at hx;rw[hia]at hi
      simp only[Qc]at hx hi
      obtain⟨b,e',E,h1,h2⟩:=hx
      split at hv
      ·rename_i hb
       simp only[cA]at hv;subst hv
       refine⟨.pointer (some ⟨b,o+m.toNat*j.size,none⟩),?_,by simp only[Qc];exact⟨b,e',E,h1,rfl⟩⟩
       simp only[execOp]
       exact Zj (by simp [Instr.indexAt,hi,asIntOf,run_underlying ht,h2,Instr.sureAddr,hb,sizeOf,typeInfo,hj,Vd])
      ·simp at hv
     ·rename_i cs k m hxa hia
      rw[hxa]at hx;rw[hia]at hi
      simp only[Qc]at hx hi
      obtain⟨b,o,h2,h1⟩:=hx
      split at hv
      ·rename_i hb
       simp only[cA]at hv;subst hv
       refine⟨.pointer (some ⟨b,o+m.toNat*j.size,none⟩),?_,by simp only[Qc];exact⟨b,_,rfl,Zx.drop _ h1⟩⟩
       simp only[execOp]
       exact Zj (by simp [Instr.indexAt,hi,asIntOf,run_underlying ht,h2,Instr.sureAddr,hb,sizeOf,typeInfo,hj,Vd])
      ·simp at hv
     ·simp at hv
    ·simp at hl
  ·rename_i e ht
   split at hl
   ·rename_i j hj
    simp only[cA]at hl;subst hl
    simp only[Qw]at hv
    split at hv
    ·rename_i sz' len cs tip k m hxa hia
     rw[hxa]at hx;rw[hia]at hi
     simp only[Qc]at hx hi
     split at hv
     ·rename_i hb
      obtain⟨hb1,hb2,rfl⟩:=hb
      simp only[cA]at hv;subst hv
      rcases hx with⟨_,rfl,_,_⟩|⟨b,o,cap,h2,_,_,h1,_⟩
      ·exact absurd hb2 (by omega)
      refine⟨.pointer (some ⟨b,o+m.toNat*j.size,none⟩),?_,by simp only[Qc];exact⟨b,_,rfl,Zx.drop _ h1⟩⟩
      simp only[execOp]
      exact Zj (by simp [Instr.indexAt,hi,asIntOf,run_underlying ht,h2,hb1,hb2,sizeOf,typeInfo,hj,Vd])
     ·simp at hv
    ·simp at hv
   ·simp at hl
  ·simp at hl
 ·rename_i t x i heq
  simp only at heq;subst heq
  have hx:=QI h he x
  have hi:=QI h he i
  split at hl
  ·rename_i n e ht
   simp only[cG]at hl
   obtain⟨⟨sz,g⟩,hg,rfl⟩:=hl
   have hsz:=(WO (P:=P) (w:=w) hg).2.1
   simp only[Qw]at hv
   split at hv
   ·rename_i cs k m hxa hia
    rw[hxa]at hx;rw[hia]at hi
    simp only[Qc]at hx hi
    obtain⟨xs,h2,h1⟩:=hx
    split at hv
    ·rename_i hb
     obtain⟨r,hr,hr'⟩:=Lj (P:=P) (w:=w) hg h1 hv
     refine⟨r,?_,hr'⟩
     simp only[execOp]
     exact Zj (by simp [Instr.index,hi,asIntOf,run_underlying ht,h2,hb,hsz,hr])
    ·simp at hv
   ·simp at hv
  ·rename_i ht
   simp only[cA]at hl;subst hl
   simp only[Qw]at hv
   split at hv
   ·rename_i s k m hxa hia
    rw[hxa]at hx;rw[hia]at hi
    simp only[Qc]at hx hi
    split at hv
    ·rename_i hb
     simp only[cG]at hv
     obtain⟨c,hc,rfl⟩:=hv
     refine⟨_,?_,Jy⟩
     have hget:(⟨s.toArray⟩:ByteArray)[m.toNat]? =some c:=by
      have hlt:m.toNat<s.length:=by
       rcases fH m.toNat s.length with h'|h'
       ·exact h'
       ·simp [fL h']at hc
      have hsz:m.toNat<(⟨s.toArray⟩:ByteArray).size:=by simpa[ByteArray.size]using hlt
      rw[getElem?_pos (⟨s.toArray⟩:ByteArray) m.toNat hsz]
      rw[dY hlt]at hc
      simp only[cA]at hc
      rw[←hc]
      rfl
     simp only[execOp]
     exact Zj (by simp [Instr.index,hi,asIntOf,run_underlying ht,hx,hb,hget])
    ·simp at hv
   ·simp at hv
  ·simp at hl
 ·rename_i t x heq
  simp only at heq;subst heq
  simp only[cG]at hl
  obtain⟨⟨sz,g⟩,hg,rfl⟩:=hl
  obtain⟨r,hr,hr'⟩:=Lm (P:=P) h hg (QI h he x) (v:=v) (by simpa only[Qw]using hv)
  refine⟨r,?_,hr'⟩
  simp only[execOp]
  exact Zj hr
 ·rename_i x i heq
  simp only at heq;subst heq
  simp only[cA]at hl;subst hl
  have hx:=QI h he x
  simp only[Qw]at hv
  split at hv
  ·rename_i vs hxa
   rw[hxa]at hx
   simp only[Qc]at hx
   obtain⟨xs,h2,h1⟩:=hx
   obtain⟨r,hr,hr'⟩:=Qi.get h1 i v hv
   have:xs[i]? =some r:=by simpa using hr
   refine⟨r,?_,hr'⟩
   simp only[execOp]
   exact Zj (by simp [Instr.extract,h2,this])
  ·simp at hv
 ·rename_i t parts heq
  simp only at heq;subst heq
  split at hl
  ·rename_i fs z ht hz
   simp only[Option.bind_eq_bind,fN]at hl
   obtain⟨ps,hps,hl⟩:=hl
   split at hl
   ·rename_i hall
    simp only[cA]at hl;subst hl
    simp only[Qw]at hv
    obtain⟨r,hr,hr'⟩:=Ry (P:=P) h he ht hz hall hps hv
    refine⟨r,?_,hr'⟩
    simp only[execOp]
    exact Zj hr
   ·simp at hl
  ·rename_i n e z ht hz
   split at hl
   ·rename_i hall
    simp only[cA]at hl;subst hl
    simp only[Qw]at hv
    obtain⟨r,hr,hr'⟩:=RX (P:=P) h he ht hz hall hv
    refine⟨r,?_,hr'⟩
    simp only[execOp]
    exact Zj hr
   ·simp at hl
  ·simp at hl
 ·rename_i t x heq
  simp only at heq;subst heq
  split at hl
  ·simp at hl
  ·simp at hl
  ·rename_i hn1 hn2
   simp only[cA]at hl;subst hl
   simp only[Qw,cA]at hv;subst hv
   refine⟨.iface t (a.eval x),?_,by simp only[Qc];exact⟨_,rfl,QI h he x⟩⟩
   simp only[execOp]
   cases hu:P.underlying t with
   |none=>exact absurd hu hn2
   |some d=>
    refine Zj ?_
    unfold Instr.makeInterface
    simp only[Sem.run_bind,run_underlying hu,Result.andThen_ok]
    cases d <;> first|rfl|exact absurd hu (hn1 _)
 ·rename_i fn first cap heq
  simp only at heq;subst heq
  simp only[cA]at hl;subst hl
  simp only[Qw,cA]at hv;subst hv
  refine⟨.func fn (first.map a.eval) (cap.map a.eval),?_,?_⟩
  ·simp only[execOp]
   exact Zj rfl
  ·simp only[Qc]
   exact⟨_,_,rfl,by simpa using IM h he first.toList,by simpa using IM h he cap.toList⟩
 ·rename_i t x lo hi heq
  simp only at heq;subst heq
  split at hl
  ·rename_i ht
   simp only[cA]at hl;subst hl
   have hx:=QI h he x
   simp only[Qw]at hv
   split at hv
   ·rename_i s hxa
    rw[hxa]at hx
    simp only[Qc]at hx
    obtain⟨r,hr,hr'⟩:=Rx (P:=P) (κ:=κ) (w:=w) (lo':=lo.map a.eval) (hi':=hi.map a.eval) ht
     (fun b hb=>by cases lo with
      |none=>simp at hb
      |some y=>simp at hb;subst hb;exact⟨_,rfl,QI h he y⟩) (fun hb=>by cases lo <;> simp at hb⊢)
     (fun b hb=>by cases hi with
      |none=>simp at hb
      |some y=>simp at hb;subst hb;exact⟨_,rfl,QI h he y⟩) (fun hb=>by cases hi <;> simp at hb⊢) hv
    refine⟨r,?_,hr'⟩
    simp only[execOp]
    exact Zj (by simpa[hx]using hr)
   ·simp at hv
  ·rename_i e ht
   split at hl
   ·rename_i j hj
    simp only[cA]at hl;subst hl
    have hx:=QI h he x
    simp only[Qw]at hv
    split at hv
    ·rename_i sz' n cs tip hxa
     rw[hxa]at hx
     split at hv
     ·rename_i hsz
      subst hsz
      obtain⟨r,hr,hr'⟩:=RT (P:=P) (κ:=κ) (w:=w) (lo':=lo.map a.eval) (hi':=hi.map a.eval) ht hj rfl hx
       (fun b hb=>by cases lo with
        |none=>simp at hb
        |some y=>simp at hb;subst hb;exact⟨_,rfl,QI h he y⟩) (fun hb=>by cases lo <;> simp at hb⊢)
       (fun b hb=>by cases hi with
        |none=>simp at hb
        |some y=>simp at hb;subst hb;exact⟨_,rfl,QI h he y⟩) (fun hb=>by cases hi <;> simp at hb⊢) hv
      exact⟨r,Zj hr,hr'⟩
     ·simp at hv
    ·simp at hv
   ·simp at hl
  ·simp at hl
 ·rename_i x xt asserted heq
  simp only at heq;subst heq
  have hx:=QI h he x
  split at hl
  ·simp at hl
  ·simp at hl
  ·simp at hl
  ·rename_i z hz hn1 hn2
   simp only[cA]at hl;subst hl
   unfold VF at hz
   cases hi:P.info? asserted with
   |none=>simp [hi]at hz
   |some inf=>
   simp [hi]at hz
   cases hu:P.underlying asserted with
   |none=>exact absurd hu (by simpa using hn2)
   |some d=>
   have hd:∀ms,d≠ .interface ms:=fun ms hd=>by subst hd;exact hn1 _ hu
   simp only[Qw]at hv
   split at hv
   ·rename_i hxa
    rw[hxa]at hx
    simp only[Qc]at hx
    simp only[cA]at hv;subst hv
    refine⟨.tuple #[z,.bool false],?_,Im (repL_two (XK κ z) Jy)⟩
    simp only[execOp]
    refine Zj ?_
    unfold Instr.typeAssert
    simp only[Sem.run_bind,run_underlying hu,Result.andThen_ok,hx]
    cases d <;> first|(simp [zeroValue,typeInfo,hi,hz];done)|exact absurd rfl (hd _)
   ·rename_i t' v' hxa
    rw[hxa]at hx
    simp only[Qc]at hx
    obtain⟨y,hx,hy⟩:=hx
    split at hv
    ·rename_i htt
     simp only[cA]at hv;subst hv
     refine⟨.tuple #[y,.bool true],?_,Im (repL_two hy Jy)⟩
     simp only[execOp]
     refine Zj ?_
     unfold Instr.typeAssert
     simp only[Sem.run_bind,run_underlying hu,Result.andThen_ok,hx]
     cases d <;> first|(simp [htt];done)|exact absurd rfl (hd _)
    ·rename_i htt
     simp only[cA]at hv;subst hv
     refine⟨.tuple #[z,.bool false],?_,Im (repL_two (XK κ z) Jy)⟩
     simp only[execOp]
     refine Zj ?_
     unfold Instr.typeAssert
     simp only[Sem.run_bind,run_underlying hu,Result.andThen_ok,hx]
     cases d <;> first|(simp [htt,zeroValue,typeInfo,hi,hz];done)|exact absurd rfl (hd _)
   ·simp at hv
 ·rename_i t m k ok heq
  simp only at heq;subst heq
  have hm:=QI h he m
  have hk:=QI h he k
  split at hl
  ·rename_i kt e ht
   split at hl
   ·rename_i fk z hfk hz
    simp only[cA]at hl;subst hl
    have hzero:(zeroValue e).run P w=.ok z w:=by
     unfold VF at hz
     cases hi:P.info? e with
     |none=>simp [hi]at hz
     |some inf=>simp [hi]at hz;simp [zeroValue,typeInfo,hi,hz]
    obtain⟨d,hd,hdk⟩:∃d,P.underlying kt=some d∧((fk=.b∧d=.bool)∨(fk=.i∧∃q,d=.int q)∨(fk=.s∧d=.string)):=by
     unfold K5 at hfk
     split at hfk <;> simp only[cA,reduceCtorEq]at hfk <;> subst hfk <;> rename_i hd
     ·exact⟨_,hd,.inl ⟨rfl,rfl⟩⟩
     ·exact⟨_,hd,.inr (.inl ⟨rfl,_,rfl⟩)⟩
     ·exact⟨_,hd,.inr (.inr ⟨rfl,rfl⟩)⟩
    have hcheck:∀b:Bool,(Instr.checkKey b 10000 kt (a.eval k)).run P w=.ok () w:=fun b=>by
     unfold Instr.checkKey
     rcases hdk with⟨_,rfl⟩|⟨_,q,rfl⟩|⟨_,rfl⟩ <;> simp [run_underlying hd]
    simp only[Qw]at hv
    generalize hka:Qs G env k=ka at hk hv
    split at hv
    ·rename_i hok
     have hmiss:Qc κ (if ok then .tuple [Zi z,.raw (.bool false)]else Zi z) (if ok then .tuple #[z,.bool false]else z):=by
      cases ok
      ·exact XK κ z
      ·exact Im (repL_two (XK κ z) Jy)
     split at hv
     ·rename_i hma
      rw[hma]at hm
      simp only[Qc]at hm
      simp only[cA]at hv;subst hv
      refine⟨_,?_,hmiss⟩
      simp only[execOp]
      refine Zj ?_
      unfold Instr.lookup
      cases ok <;> simp [run_underlying ht,hm,hcheck,Instr.findKey,run_underlying hd,Instr.findNow,hzero]
     ·rename_i id hma
      rw[hma]at hm
      simp only[Qc]at hm
      obtain⟨mb,me,mE,hs,hm⟩:=hm
      split at hv
      ·rename_i es hes
       obtain⟨b',e',E',k1,k2⟩:=h.obj id _ hes
       rw[hs]at k1;simp only[cA,cW]at k1;obtain⟨rfl,rfl,rfl⟩:=k1
       obtain⟨⟨l,c,hl1,hl2,_⟩,_⟩:=k2
       have hget:(getObj mb).run P w=.ok (.map l c) w:=run_getObj_map (P:=P) w mb l c hl1
       have hfind:∀r,VN ka es=some r→∃y:Option (Nat×Value),Instr.findNow d (a.eval k) l.toList 0=some y∧Tw κ r y:=fun r hr=>
        WM es l.toList d ka (a.eval k) 0 r hl2 hk hr
         (fun q x hx=>by subst hx;rcases hdk with⟨rfl,rfl⟩|⟨_,h⟩|⟨rfl,rfl⟩ <;> simp [YS]at hok;exact h)
         (fun x hx=>by subst hx;rcases hdk with⟨rfl,rfl⟩|⟨rfl,h⟩|⟨rfl,rfl⟩ <;> simp [YS]at hok;rfl)
         (by unfold YS at hok;split at hok
             ·exact .inl ⟨_,_,rfl⟩
             ·exact .inr (.inl ⟨_,rfl⟩)
             ·simp at hok)
       split at hv
       ·rename_i v' hf
        obtain⟨y,hy1,hy2⟩:=hfind _ hf
        cases y with
        |none=>exact hy2.elim
        |some y=>
         obtain⟨i,u'⟩:=y
         simp only[cA]at hv;subst hv
         refine⟨if ok then .tuple #[u',.bool true]else u',?_,?_⟩
         ·simp only[execOp]
          refine Zj ?_
          unfold Instr.lookup
          cases ok <;> simp [run_underlying ht,hm,hget,hcheck,Instr.findKey,run_underlying hd,hy1]
         ·cases ok
          ·exact hy2
          ·exact Im (repL_two hy2 Jy)
       ·rename_i hf
        obtain⟨y,hy1,hy2⟩:=hfind _ hf
        cases y with
        |some y=>exact hy2.elim
        |none=>
         simp only[cA]at hv;subst hv
         refine⟨_,?_,hmiss⟩
         simp only[execOp]
         refine Zj ?_
         unfold Instr.lookup
         cases ok <;> simp [run_underlying ht,hm,hget,hcheck,Instr.findKey,run_underlying hd,hy1,hzero]
       ·simp at hv
      ·simp at hv
     ·simp at hv
    ·simp at hv
   ·simp at hl
  ·simp at hl
 ·rename_i args tys heq
  simp only at heq;subst heq
  have key:∀(x:Operand) (t:TypeId) (d:TypeDesc) (k:LK),args.toList=[x]→tys[0]? =some t→P.underlying t=some d→k.desc d→Qw G env A (.lenOf k x)=some v→
   ∃u,(execOp a.eval ⟨dst,.call {callee:=.builtin .len,args:=args,argTypes:=tys},ty,pos,aft,gd⟩).run P w=.ok (.value u) w∧Qc κ v u:=fun x t d k hx h0 ht hk hv=>by
   have hx:args=#[x]:=by apply dN.1;simpa using hx
   subst hx
   simp only[Qw,cG]at hv
   obtain⟨n,hn,rfl⟩:=hv
   refine⟨_,?_,Jy⟩
   simp [execOp,resolve,invoke,builtin,Gr (P:=P) h hk ht (QI h he x) hn h0]
  split at hl
  ·rename_i x hx ht
   simp only[cA]at hl;subst hl
   simp only[fN]at ht
   obtain⟨t,h0,ht⟩:=ht
   exact key x t _ .str hx h0 ht rfl hv
  ·rename_i x e hx ht
   simp only[cA]at hl;subst hl
   simp only[fN]at ht
   obtain⟨t,h0,ht⟩:=ht
   exact key x t _ .slice hx h0 ht ⟨_,rfl⟩ hv
  ·rename_i x e e' hx ht
   simp only[cA]at hl;subst hl
   simp only[fN]at ht
   obtain⟨t,h0,ht⟩:=ht
   exact key x t _ .map hx h0 ht ⟨_,_,rfl⟩ hv
  ·rename_i x n e hx ht
   simp only[cA]at hl;subst hl
   simp only[fN]at ht
   obtain⟨t,h0,ht⟩:=ht
   exact key x t _ (.arr n) hx h0 ht ⟨_,rfl⟩ hv
  ·simp at hl
 ·rename_i args tys heq
  simp only at heq;subst heq
  split at hl
  ·rename_i x y hxy
   simp only[cA]at hl;subst hl
   have hxy:args=#[x,y]:=by apply dN.1;simpa using hxy
   subst hxy
   have hx:=QI h he x
   have hy:=QI h he y
   simp only[Qw]at hv
   split at hv
   ·rename_i k n k' m hxa hya
    rw[hxa]at hx;rw[hya]at hy
    simp only[Qc]at hx hy
    split at hv
    ·simp only[if_true,cA]at hv;subst hv
     refine⟨_,?_,Jy⟩
     simp [execOp,resolve,invoke,builtin,Builtin.max_,Builtin.max2,hx,hy]
    ·simp at hv
   ·simp at hv
  ·simp at hl
 ·rename_i args tys heq
  simp only at heq;subst heq
  split at hl
  ·rename_i x y hxy
   simp only[cA]at hl;subst hl
   have hxy:args=#[x,y]:=by apply dN.1;simpa using hxy
   subst hxy
   have hx:=QI h he x
   have hy:=QI h he y
   simp only[Qw]at hv
   split at hv
   ·rename_i k n k' m hxa hya
    rw[hxa]at hx;rw[hya]at hy
    simp only[Qc]at hx hy
    split at hv
    ·simp only[cB,if_false,cA]at hv;subst hv
     refine⟨_,?_,Jy⟩
     simp [execOp,resolve,invoke,builtin,Builtin.min_,Builtin.min2,hx,hy]
    ·simp at hv
   ·simp at hv
  ·simp at hl
 ·simp at hl
end
def W8 (cs:List AV):Nat→List AV→List AV
 |_,[]=>cs
 |k,v::vs=>W8 (cs.set k v) (k+1) vs
theorem QZ (A:Q3)(id:Nat)(x y:Option AObj):(A.upd id x).upd id y=A.upd id y:=by
 funext k
 simp only[Q3.upd]
 split <;> rfl
theorem YP {A:Q3}{id:Nat}{x:Option AObj}(h:A id=x):A.upd id x=A:=by
 funext k
 simp only[Q3.upd]
 split
 ·rename_i e;subst e;exact h.symm
 ·rfl
section
variable {P:Program}{G:Nat→Option (List AV)}{κ:Kn}{A:Q3}{w:World}
theorem Rel.i_none (h:Rel G κ A w){b:Nat}(hb:w.heap.size≤b)(i:Nat):κ.i b i=none:=by
 cases hv:κ.i b i with
 |none=>rfl
 |some v=>have:=h.imm_lt hv;omega
theorem Rel.newCells (h:Rel G κ A w){cs:List AV}{arr:Array Value}{el:TypeId}(hr:Qi κ cs arr.toList):
 ∃id,κ.s id=none∧A id=none∧(el=Ol→id % 2=1)∧Rel G (κ.addS id (w.heap.size,0,0)) (A.upd id (some (.cells cs))) (w.alloc (.cells arr el))∧
  Step κ A w (κ.addS id (w.heap.size,0,0)) (A.upd id (some (.cells cs))) (w.alloc (.cells arr el)):=by
 obtain⟨id,h1,h2,h3⟩:=h.freshP (if el=Ol then 1 else 0) (by split <;> omega)
 refine⟨id,h1,h2,fun he=>by rw[fC he]at h3;exact h3,(h.alloc0 _).track h1 ⟨rfl,⟨arr,el,Yi w _,Qi.mono (U9 h1 _) _ _ hr⟩,fun i=>h.i_none (fG _) i⟩ (fun k hk ht=> ?_) (fun g cs hg hk=>by simp only[Z5]at hk;have:=h.glob_lt hg;omega) (fun _ _ hodd=>by
  by_cases he:el=Ol
  ·subst he;exact⟨arr,(0,0),Yi w _⟩
  ·rw[fD he]at h3;omega),Step.track h1 (Step.alloc0 h _) (fun k hk=> ?_)⟩
 ·simp only[Z5]at hk;subst hk
  obtain⟨j,oj,x,k1,k2,k3⟩:=ht
  obtain⟨b,e,E,q1,q2⟩:=h.obj j oj k1
  rw[k2]at q1;simp only[cA]at q1;subst q1
  have:=q2.foot_lt ((ZW (heap_alloc w _ _ q2.block) _).1 k3)
  omega
 ·simp only[Z5]at hk;subst hk;exact .inr (fG _)
theorem Rel.newMap (h:Rel G κ A w):∃id,κ.s id=none∧A id=none∧Rel G (κ.addS id (w.heap.size,0,0)) (A.upd id (some (.mp []))) (w.alloc (.map #[] 0))∧
 Step κ A w (κ.addS id (w.heap.size,0,0)) (A.upd id (some (.mp []))) (w.alloc (.map #[] 0)):=by
 obtain⟨id,h1,h2⟩:=h.fresh
 refine⟨id,h1,h2,(h.alloc0 _).track h1 ⟨⟨#[],0,Yi w _,by simp [Yj],by simp,by simp⟩,fun i=>h.i_none (fG _) i⟩ (fun k hk ht=> ?_) (fun g cs hg hk=>by simp only[Z5]at hk;have:=h.glob_lt hg;omega),Step.track h1 (Step.alloc0 h _) (fun k hk=> ?_)⟩
 ·simp only[Z5]at hk;subst hk
  obtain⟨j,oj,x,k1,k2,k3⟩:=ht
  obtain⟨b,e,E,q1,q2⟩:=h.obj j oj k1
  rw[k2]at q1;simp only[cA]at q1;subst q1
  have:=q2.foot_lt ((ZW (heap_alloc w _ _ q2.block) _).1 k3)
  omega
 ·simp only[Z5]at hk;subst hk;exact .inr (fG _)
theorem Rel.no_mit (h:Rel G κ A w){id:Nat}(hid:κ.s id=none):∀(j:Nat) (m:Option Nat) (left:List (AV×AV)) (last:Option (AV×AV)),A j=some (.mit m left last)→m≠some id:=fun j m left last hj hm=>by
 subst hm
 obtain⟨b,e,E,_,h2⟩:=h.obj j _ hj
 obtain⟨⟨l,c,mb,me,mE,seen,h3,_⟩,_⟩:=h2
 rw[hid]at h3;simp at h3
theorem Rel.newImm (h:Rel G κ A w){arr:Array Value}{el:TypeId}{fr:Nat×Nat}{cs:List AV}(hr:Qi κ cs (arr.toList.take cs.length)):
 ∃κ',κ'.s=κ.s∧Rel G κ' A (w.alloc (.cells arr el fr))∧Step κ A w κ' A (w.alloc (.cells arr el fr))∧Zx κ' w.heap.size cs 0∧(∀i,cs.length≤i→κ'.i w.heap.size i=none)∧∀b i,b≠w.heap.size→κ'.i b i=κ.i b i:=by
 have h1:=h.alloc0 (.cells arr el fr)
 have hno:∀id o x,A id=some o→κ.s id=some x→¬Z5 (w.alloc (.cells arr el fr)) x.1 o w.heap.size:=fun j oj x k1 k2 k3=>by
  obtain⟨b,e,E,q1,q2⟩:=h.obj j oj k1
  rw[k2]at q1;simp only[cA]at q1;subst q1
  have:=q2.foot_lt ((ZW (heap_alloc w _ _ q2.block) _).1 k3)
  omega
 have hf:∀i v,(fun i=>if i<cs.length then arr[i]? else none) i=some v→(w.alloc (.cells arr el fr)).cell? ⟨w.heap.size,i,none⟩=some v:=fun i v hv=>by
  simp only at hv
  split at hv
  ·simp only[World.cell?,Yi];simpa using hv
  ·simp at hv
 have h2:=h1.know (b:=w.heap.size) (f:=fun i=>if i<cs.length then arr[i]? else none) hf (fun id o x k1 k2 k3=>absurd k3 (hno id o x k1 k2))
 have hle:κ.le (κ.addI w.heap.size fun i=>if i<cs.length then arr[i]? else none):=O2 fun o v hv=>by have:=h.imm_lt hv;omega
 refine⟨κ.addI w.heap.size fun i=>if i<cs.length then arr[i]? else none,rfl,h2,(Step.alloc0 h _).know hle rfl,?_,fun i hi=> ?_,fun b i hb=>Km _ _ _ hb i⟩
 ·have key:∀(l:List AV) (us:List Value) (o:Nat),Qi κ l us→(∀i v,us[i]? =some v→(κ.addI w.heap.size fun i=>if i<cs.length then arr[i]? else none).i w.heap.size (o+i)=some v)→
   Zx (κ.addI w.heap.size fun i=>if i<cs.length then arr[i]? else none) w.heap.size l o:=by
   intro l
   induction l with
   |nil=>intro us o _ _;simp [Zx]
   |cons c l ih=>
    intro us o hr hi
    simp only[Qi]at hr
    obtain⟨x,xs,rfl,k2,k3⟩:=hr
    simp only[Zx]
    refine⟨⟨x,hi 0 x rfl,Qc.mono hle _ _ k2⟩,ih xs (o+1) k3 fun i v hv=> ?_⟩
    rw[show o+1+i=o+(i+1)from by omega]
    exact hi (i+1) v (by simpa using hv)
  refine key cs _ 0 hr fun i v hv=> ?_
  rw[List.getElem?_take]at hv
  split at hv
  ·rename_i hi
   rw[VK,lN]
   simp only[hi,if_true]
   have:arr[i]? =some v:=by simpa using hv
   rw[this];rfl
  ·simp at hv
 ·rw[VK]
  have:¬i<cs.length:=by omega
  simp only[this,if_false]
  exact h.i_none (fG _) i
theorem LB (b o:Nat):∀(vs:List AV) (us:List Value) (i:Nat) (cs:List AV) (A:Q3) (w:World) (id e E:Nat),Rel G κ A w→Qi κ vs us→(∀u∈us,u.oneCell'=true)→A id=some (.cells cs)→κ.s id=some (b,e,E)→
 o+i+vs.length≤cs.length→∃w',(storeCells ⟨b,o,none⟩ us i).run P w=.ok () w'∧Rel G κ (A.upd id (some (.cells (W8 cs (o+i) vs)))) w'∧Step κ A w κ (A.upd id (some (.cells (W8 cs (o+i) vs)))) w'
 |[],us,i,cs,A,w,id,e,E,h,hr,_,hid,hs,hl=>by
  simp only[Qi]at hr;subst hr
  simp only[W8]
  rw[YP hid]
  exact⟨w,rfl,h,Step.refl _ _ _⟩
 |v::vs,us,i,cs,A,w,id,e,E,h,hr,h1,hid,hs,hl=>by
  simp only[Qi]at hr
  obtain⟨u,us',rfl,hu,hr'⟩:=hr
  simp only[cE]at hl
  obtain⟨b',e',E',k1,k2⟩:=h.obj id _ hid
  rw[hs]at k1;simp only[cA,cW]at k1;obtain⟨rfl,rfl,rfl⟩:=k1
  obtain⟨_,⟨a,el,h2,h3⟩,_⟩:=k2
  have hlen:=h3.length
  simp only[dR]at hlen
  have hcell:w.cell? ⟨b,o+i,none⟩=a[o+i]? :=by simp [World.cell?,h2]
  have hlt:o+i<a.size:=by omega
  have hfz:w.frozen? ⟨b,o+i,none⟩=false:=by simp [World.frozen?,h2]
  have hst:(Go.store ((⟨b,o,none⟩:Addr).add i) u).run P w=.ok () (w.setCell ⟨b,o+i,none⟩ u):=by
   rw[Vd,run_store P w _ u _ (h1 u (by simp)),hcell,Array.getElem?_eq_getElem hlt]
   simp only[hfz,cB,if_false]
  obtain⟨r1,r2⟩:=h.store (i:=o+i) hid hs hu
  obtain⟨w',q1,q2,q3⟩:=LB b o vs us' (i+1) (cs.set (o+i) v) _ _ id e E r1 hr' (fun x hx=>h1 x (by simp [hx])) (Q0 _ _ _) hs (by simp;omega)
  rw[QZ]at q2 q3
  refine⟨w',?_,?_,?_⟩
  ·simp only[storeCells,Sem.run_bind,hst,Result.andThen_ok]
   exact q1
  ·simpa only[W8,Nat.add_assoc]using q2
  ·exact r2.trans (by simpa only[W8,Nat.add_assoc]using q3)
theorem PW {v:AV}{u:Value}(h:Qc κ v u)(h1:v.one=true):u.oneCell'=true:=by
 cases v with
 |raw x=>simp only[Qc]at h;subst h;exact h1
 |str s=>simp only[Qc]at h;subst h;rfl
 |ptr id off=>simp only[Qc]at h;obtain⟨_,_,_,_,rfl⟩:=h;rfl
 |iptr cs=>simp only[Qc]at h;obtain⟨_,_,rfl,_⟩:=h;rfl
 |slice sz n cs tip=>
  simp only[Qc]at h
  rcases h with⟨_,_,_,_,rfl⟩|⟨_,_,_,rfl,_⟩ <;> rfl
 |agg cs=>simp [AV.one]at h1
 |tuple vs=>simp [AV.one]at h1
 |iface t x=>simp only[Qc]at h;obtain⟨_,rfl,_⟩:=h;rfl
 |func fn f c=>simp only[Qc]at h;obtain⟨_,_,rfl,_⟩:=h;rfl
 |map id=>simp only[Qc]at h;obtain⟨_,_,_,_,rfl⟩:=h;rfl
theorem LT:∀{vs:List AV} {us:List Value},Qi κ vs us→vs.all AV.one=true→∀u∈us,u.oneCell'=true
 |[],_,h,_,u,hu=>by simp only[Qi]at h;subst h;simp at hu
 |v::vs,_,h,h1,u,hu=>by
  simp only[Qi]at h
  obtain⟨x,xs,rfl,k2,k3⟩:=h
  simp only[dU,cD]at h1
  rcases dT.1 hu with rfl|hu
  ·exact PW k2 h1.1
  ·exact LT k3 h1.2 u hu
end
section
variable {P:Program}{G:Nat→Option (List AV)}{κ:Kn}{A:Q3}{w:World}
theorem Rel.drop (h:Rel G κ A w){t:Nat}(ht:A t=some .tip):Rel G κ (A.upd t none) w:=
 h.weaken ⟨fun id o ho=>by
  simp only[Q3.upd]at ho
  split at ho
  ·simp at ho
  ·exact ho,fun id m left last ho=>by
  simp only[Q3.upd]at ho⊢
  split at ho
  ·simp at ho
  ·obtain⟨b,e,E,_,h2⟩:=h.obj id _ ho
   obtain⟨⟨l,c,mb,me,mE,seen,_,⟨es,h3⟩,_⟩,_⟩:=h2
   refine⟨es,?_⟩
   rw[fD]
   ·exact h3
   ·intro hm;subst hm;rw[ht]at h3;simp at h3⟩
theorem Step.drop {A':Q3}{w':World}{κ':Kn}(h:Step κ A w κ' A' w')(t:Nat):Step κ A w κ' (A'.upd t none) w':=
 ⟨h.le,h.size,h.keep,fun b ⟨id,o,x,h1,h2,h3⟩=>h.trk b ⟨id,o,x,by
  simp only[Q3.upd]at h1
  split at h1
  ·simp at h1
  ·exact h1,h2,h3⟩,h.tape,h.os,h.output⟩
theorem Rel.newSlice (h:Rel G κ A w){sz n cap:Nat}{cs:List AV}{us:List Value}{arr:Array Value}{el:TypeId}(hr:Qi κ cs us)(hlen:cs.length=n*sz)(harr:arr.toList.take cs.length=us)(hcap:n≤cap)(hsz:cap*sz≤arr.size):
 ∃κ' t,κ.s t=none∧A t=none∧(el=Wv→t % 2=1)∧Rel G κ' (A.upd t (some .tip)) (w.alloc (.cells arr el))∧Step κ A w κ' (A.upd t (some .tip)) (w.alloc (.cells arr el))∧
  Qc κ' (.slice sz n cs (some t)) (.slice (some ⟨w.heap.size,0,none⟩) n cap):=by
 obtain⟨κ1,e1,r1,s1,c1,i1,_⟩:=h.newImm (arr:=arr) (el:=el) (fr:=(0,0)) (cs:=cs) (by rw[harr];exact hr)
 obtain⟨t,ht1,ht2,ht3⟩:=h.freshP (if el=Wv then 1 else 0) (by split <;> omega)
 have ht1':κ1.s t=none:=by rw[e1];exact ht1
 refine⟨κ1.addS t (w.heap.size,n*sz,cap*sz),t,ht1,ht2,fun he=>by rw[fC he]at ht3;exact ht3,r1.track ht1' ⟨⟨arr,el,(0,0),Yi w _,hsz,lO _⟩,fun i hi=>i1 i (by omega)⟩ (fun k hk htr=> ?_) (fun g cs hg hk=>by simp only[Z5]at hk;have:=h.glob_lt hg;omega) (hty':=fun _ hodd=>by
  by_cases he:el=Wv
  ·subst he;exact⟨arr,(0,0),Yi w _⟩
  ·rw[fD he]at ht3;omega),Step.track ht1' s1 (fun k hk=> ?_),?_⟩
 ·simp only[Z5]at hk;subst hk
  obtain⟨j,oj,x,k1,k2,k3⟩:=htr
  rw[e1]at k2
  obtain⟨b,e,E,q1,q2⟩:=h.obj j oj k1
  rw[k2]at q1;simp only[cA]at q1;subst q1
  have:=q2.foot_lt ((ZW (heap_alloc w _ _ q2.block) _).1 k3)
  omega
 ·simp only[Z5]at hk;subst hk;exact .inr (fG _)
 ·simp only[Qc]
  refine .inr ⟨w.heap.size,0,cap,rfl,hcap,hlen,Zx.mono (U9 ht1' _) _ _ _ c1,fun t' ht'=> ?_⟩
  simp only[cA]at ht';subst ht'
  simp
theorem yE (w:World)(b k:Nat)(cs:Array Value)(h:k≠b):(w.setRow b cs).heap[k]? =w.heap[k]? :=setRow_other w b k cs h
theorem Rel.inPlace (h:Rel G κ A w){t b e E:Nat}{sz m:Nat}{ds:List AV}{us:List Value}(ht:A t=some .tip)(hs:κ.s t=some (b,e,E))(hr:Qi κ ds us)(hlen:ds.length=m*sz)(hE:e+m*sz≤E)(hone:∀u∈us,u.oneCell'=true):
 ∃w' κ' t',(storeCells ⟨b,e,none⟩ us).run P w=.ok () w'∧κ.s t'=none∧A t'=none∧(t % 2=1→t' % 2=1)∧Rel G κ' ((A.upd t none).upd t' (some .tip)) w'∧Step κ A w κ' ((A.upd t none).upd t' (some .tip)) w'∧
  Zx κ' b ds e∧κ'.s t'=some (b,e+m*sz,E):=by
 obtain⟨b',e',E',k1,k2⟩:=h.obj t _ ht
 rw[hs]at k1;simp only[cA,cW]at k1;obtain⟨rfl,rfl,rfl⟩:=k1
 obtain⟨⟨a,el,fr,h2,h3,h4⟩,h5⟩:=k2
 have hul:=hr.length
 have hrun:=Go.run_storeCells_atF P b e el fr us 0 a w h2 (by omega) (by omega) hone
 simp only[fS]at hrun
 generalize hnew:(a.toList.take e++us++a.toList.drop (e+us.length)).toArray=a' at hrun
 have ha'sz:a'.size=a.size:=by subst hnew;simp;omega
 have hget:∀i,i<e→a'[i]? =a[i]? :=fun i hi=>by
  subst hnew
  simp only[cU,List.getElem?_toArray]
  rw[List.getElem?_append_left (by simp;omega),List.getElem?_take,fC hi]
  simp
 have hget2:∀i v,us[i]? =some v→a'[e+i]? =some v:=fun i v hv=>by
  have hi:i<us.length:=by
   rcases fH i us.length with h'|h'
   ·exact h'
   ·simp [fL h']at hv
  subst hnew
  simp only[cU,List.getElem?_toArray]
  have htl:(a.toList.take e).length=e:=by simp;omega
  rw[List.getElem?_append_right (by omega),htl,show e+i - e=i from by omega,List.getElem?_append_left hi]
  exact hv
 have hheap:(w.setRow b a').heap[b]? =some (.cells a' el fr):=setRow_heap w b a a' el fr h2
 have hkeep:∀k,k<w.heap.size→¬Z5 w b .tip k→(w.setRow b a').heap[k]? =w.heap[k]? :=fun k _ hn=>setRow_other w b k a' (by simpa[Z5]using hn)
 have r1:=h.turn (o':=.tip) ht hs hkeep (fun k i v hf hv=>by
  simp only[Z5]at hf;subst hf
  have hi:i<e:=by
   rcases fH i e with h'|h'
   ·exact h'
   ·rw[h5 i h']at hv;simp at hv
  have:=h.imm k i v hv
  simp only[World.cell?,h2]at this
  simp only[World.cell?,hheap,hget i hi]
  exact this) ⟨⟨a',el,fr,hheap,by omega,h4⟩,h5⟩ (fun k hf=>.inl (by simpa[Z5]using hf)) (by simp) (hty':=fun _ hodd=>by
  obtain⟨a2,fr2,h6⟩:=h.tyq t b e E ht hs hodd
  rw[h2]at h6;simp only[cA,Obj.cells.injEq]at h6
  exact⟨a',fr,by rw[hheap,h6.2.1]⟩)
 rw[YP ht]at r1
 have r2:=r1.drop ht
 have hno:∀id o x,(A.upd t none) id=some o→κ.s id=some x→¬Z5 (w.setRow b a') x.1 o b:=fun id o x q1 q2 q3=>by
  simp only[Q3.upd]at q1
  split at q1
  ·simp at q1
  ·rename_i hne
   exact r1.inj id t o .tip x _ b q1 ht q2 hs hne q3 (by simp [Z5])
 have hf:∀i v,(fun i=>if e≤i∧i<e+us.length then a'[i]? else none) i=some v→(w.setRow b a').cell? ⟨b,i,none⟩=some v:=fun i v hv=>by
  simp only at hv
  split at hv
  ·simp only[World.cell?,hheap];simpa using hv
  ·simp at hv
 have r3:=r2.know (b:=b) (f:=fun i=>if e≤i∧i<e+us.length then a'[i]? else none) hf (fun id o x q1 q2 q3=>absurd q3 (hno id o x q1 q2))
 have hle:κ.le (κ.addI b fun i=>if e≤i∧i<e+us.length then a'[i]? else none):=O2 fun i v hv=>by
  left
  have hi:i<e:=by
   rcases fH i e with h'|h'
   ·exact h'
   ·rw[h5 i h']at hv;simp at hv
  rw[fD (by omega)]
 obtain⟨t',ht1,ht2,ht3⟩:=h.freshP (t % 2) (by omega)
 have htt:t'≠t:=fun e=>by subst e;rw[hs]at ht1;simp at ht1
 have ht1':(κ.addI b (fun i=>if e≤i∧i<e+us.length then a'[i]? else none)).s t'=none:=ht1
 have r4:=r3.track (id:=t') (b:=b) (e:=e+m*sz) (E:=E) (o:=.tip) ht1' ⟨⟨a',el,fr,hheap,by omega,by omega⟩,fun i hi=>by
  show(κ.addI b (fun i=>if e≤i∧i<e+us.length then a'[i]? else none)).i b i=none
  rw[VK,fD (by omega),h5 i (by omega)]
  rfl⟩ (fun k hk ⟨j,oj,x,q1,q2,q3⟩=>by
   simp only[Z5]at hk;subst hk
   exact hno j oj x q1 q2 q3) (fun g cs hg hk=>(h.gsz g cs hg).2 ⟨t,.tip,_,ht,hs,by simpa only[Z5]using hk⟩) (hty':=fun _ hodd=>by
    obtain⟨a2,fr2,h6⟩:=h.tyq t b e E ht hs (by omega)
    rw[h2]at h6;simp only[cA,Obj.cells.injEq]at h6
    exact⟨a',fr,by rw[hheap,h6.2.1]⟩)
 refine⟨_,_,t',hrun,ht1,ht2,fun h=>by omega,r4,?_,?_,by simp⟩
 ·refine⟨Kn.le_trans hle (U9 ht1' _),by rw[size_setRow];exact fG _,fun k hk hn=>hkeep k hk fun hf=>hn ⟨t,.tip,_,ht,hs,hf⟩,fun k ⟨j,oj,x,q1,q2,q3⟩=> ?_,rfl,rfl,rfl⟩
  by_cases ej:j=t'
  ·subst ej
   simp at q1 q2;subst q1 q2
   exact .inl ⟨t,.tip,_,ht,hs,q3⟩
  ·rw[Qa _ _ _ ej]at q1
   rw[Yh _ _ _ ej]at q2
   simp only[Q3.upd]at q1
   split at q1
   ·simp at q1
   ·rename_i hne
    obtain⟨b',e',E',p1,p2⟩:=h.obj j _ q1
    have q2':κ.s j=some x:=q2
    rw[q2']at p1;simp only[cA]at p1;subst p1
    have hb':(w.setRow b a').heap[b']? =w.heap[b']? :=hkeep b' p2.block fun hf=>h.inj j t oj .tip _ _ b' q1 ht q2' hs hne (Z5.base w _ _) hf
    exact .inl ⟨j,oj,_,q1,q2',(ZW hb' k).1 q3⟩
 ·refine Zx.mono (U9 ht1' _) _ _ _ ?_
  have key:∀(l:List AV) (vs:List Value) (k:Nat),Qi κ l vs→k+vs.length=us.length→(∀i v,vs[i]? =some v→us[k+i]? =some v)→Zx (κ.addI b fun i=>if e≤i∧i<e+us.length then a'[i]? else none) b l (e+k):=by
   intro l
   induction l with
   |nil=>intro vs k _ _ _;simp [Zx]
   |cons c l ih=>
    intro vs k hr hk hi
    simp only[Qi]at hr
    obtain⟨x,xs,rfl,p2,p3⟩:=hr
    simp only[cE]at hk
    simp only[Zx]
    refine⟨⟨x,?_,Qc.mono hle _ _ p2⟩,ih xs (k+1) p3 (by omega) fun i v hv=> ?_⟩
    ·rw[VK,fC (by omega),hget2 k x (hi 0 x rfl)]
     rfl
    ·rw[show k+1+i=k+(i+1)from by omega]
     exact hi (i+1) v (by simpa using hv)
  exact key ds us 0 hr (by simp) (fun i v hv=>by simpa using hv)
end
end Go.Ax
