/- Part 15 of the proof. -/
import Derived.Test.YtcbjbgaefighcaaGreatDoorT0
import Derived.Test.YtcbjbgaefighcaaGreatDoorT14
set_option linter.all false
namespace Go.Proofs.YtcbjbgaefighcaaGreatDoor
open Go Go.Ax Go.Proofs
theorem Y6 (l:List AV):Xy l l:=fun _ _ h=>h
theorem H2:∀{a a' b b':List AV},Xy a a'→Xy b b'→Xy (a++b) (a'++b')
 |[],a',b,b',h,k=>fun κ us hr=>by
  have h0:Qi κ a' []:=h κ [] (by simp [Qi])
  have e:a'=[]:=by
   cases a' with
   |nil=>rfl
   |cons x xs=>simp only[Qi]at h0;obtain⟨_,_,h1,_⟩:=h0;cases h1
  subst e
  exact k κ us hr
 |x::xs,a',b,b',h,k=>fun κ us hr=>by
  have key:∃vs ws,us=vs++ws∧Qi κ (x::xs) vs∧Qi κ b ws:=by
   refine⟨us.take (x::xs).length,us.drop (x::xs).length,(fY _ _).symm,?_,?_⟩
   ·have:=Qi.take (x::xs).length hr;simpa using this
   ·have:=Qi.drop (x::xs).length hr;simpa using this
  obtain⟨vs,ws,rfl,h1,h2⟩:=key
  exact Qi.append (h κ _ h1) (k κ _ h2)
theorem IL {κ:Kn}{b:Nat}:∀{cs:List AV} {o:Nat},Zx κ b cs o↔∃us:List Value,us.length=cs.length∧(∀i v,us[i]? =some v→κ.i b (o+i)=some v)∧Qi κ cs us
 |[],o=>⟨fun _=>⟨[],rfl,by simp,by simp [Qi]⟩,fun _=>by simp [Zx]⟩
 |c::cs,o=>by
  simp only[Zx]
  constructor
  ·rintro⟨⟨x,h1,h2⟩,h3⟩
   obtain⟨us,k1,k2,k3⟩:=IL.1 h3
   refine⟨x::us,by simp [k1],fun i v hi=> ?_,?_⟩
   ·cases i with
    |zero=>simp at hi;subst hi;exact h1
    |succ i=>rw[show o+(i+1)=o+1+i from by omega];exact k2 i v (by simpa using hi)
   ·simp only[Qi];exact⟨x,us,rfl,h2,k3⟩
  ·rintro⟨us,k1,k2,k3⟩
   simp only[Qi]at k3
   obtain⟨x,xs,rfl,h2,h3⟩:=k3
   refine⟨⟨x,k2 0 x (by simp),h2⟩,IL.2 ⟨xs,by simpa using k1,fun i v hi=> ?_,h3⟩⟩
   rw[show o+1+i=o+(i+1)from by omega]
   exact k2 (i+1) v (by simpa using hi)
theorem wkL_len {a b:List AV}(h:Xy a b)(hn:∃κ us,Qi κ a us):a.length=b.length:=by
 obtain⟨κ,us,hr⟩:=hn
 rw[←hr.length,(h κ us hr).length]
theorem T0 {sz n:Nat}{cs cs':List AV}{tip:Option Nat}(h:Xy cs cs'):Wk (.slice sz n cs tip) (.slice sz n cs' none):=fun κ u hr=>by
 simp only[Qc]at hr⊢
 rcases hr with⟨_,h2,h3,h4⟩|⟨b,o,cap,h1,h2,h3,h4,_⟩
 ·subst h3
  have h0:Qi κ cs' []:=h κ [] (by simp [Qi])
  have e:cs'=[]:=by
   cases cs' with
   |nil=>rfl
   |cons x xs=>simp only[Qi]at h0;obtain⟨_,_,h1,_⟩:=h0;cases h1
  exact .inl ⟨trivial,h2,e,h4⟩
 ·obtain⟨us,k1,k2,k3⟩:=IL.1 h4
  have k4:=h κ us k3
  refine .inr ⟨b,o,cap,h1,h2,?_,IL.2 ⟨us,k4.length,k2,k4⟩,fun t ht=>by cases ht⟩
  rw[←k4.length,k1,h3]
theorem YA {cs cs':List AV}(h:Xy cs cs'):Wk (.agg cs) (.agg cs'):=fun κ u hr=>by
 simp only[Qc]at hr⊢
 obtain⟨a,h1,h2⟩:=hr
 exact⟨a,h1,h κ _ h2⟩
def Zw (x:Exp):AV:=.agg x.cells
theorem Exp.cells_one:∀x:Exp,x.cells.all AV.one=true
 | .mk .. =>rfl
theorem Exp.cells_take (x:Exp):x.cells.take 4=x.cells:=dX (by rw[Exp.cells_len];exact fG _)
theorem Mo:∀{vs cs:List AV},vs.length=cs.length→W8 cs 0 vs=vs:=by
 intro vs cs h
 have key:∀(vs pre cs:List AV),vs.length=cs.length→W8 (pre++cs) pre.length vs=pre++vs:=by
  intro vs
  induction vs with
  |nil=>intro pre cs h;cases cs with
   |nil=>rfl
   |cons _ _=>simp at h
  |cons v vs ih=>
   intro pre cs h
   cases cs with
   |nil=>simp at h
   |cons c cs=>
    simp only[W8]
    have e:(pre++c::cs).set pre.length v=(pre++[v])++cs:=by simp
    rw[e,show pre.length+1=(pre++[v]).length from by simp,ih (pre++[v]) cs (by simpa using h)]
    simp
 simpa using key vs [] cs h
theorem Kl (x:Exp):(Zw x).cells=x.cells:=Xj
def axE:=And.intro @Kl<|And.intro @Exp.cells_len<|And.intro @Exp.cells_one<|And.intro @Exp.cells_take<|@Mo
def Zp:=And.intro ZR<|And.intro @axE<|And.intro @true_implies<|And.intro @false_implies<|And.intro @not_true_eq_false<|@not_false_eq_true
structure IsE (cs:List AV) (x:Exp):Prop where
 len:cs.length=4
 one:cs.all AV.one=true
 wk:Xy cs x.cells
theorem KD (x:Exp):IsE x.cells x:=⟨x.cells_len,x.cells_one,Y6 _⟩
theorem Nq {k i:Int}{n:Bs}{xs:List Exp}{a:AV}(h:Wk a (.slice 4 xs.length (Exp.cellsL xs) none))(h1:a.one=true):IsE [i64 k,.str n,i64 i,a] (.mk k n i xs):=
 ⟨rfl,by simp only[dU,lP,h1,LS,Ha];rfl,.cons (Wk.refl _) (.cons (Wk.refl _) (.cons (Wk.refl _) (.cons h .nil)))⟩
theorem Kp {k i:Int}{n:Bs}:IsE [i64 k,.str n,i64 i,.raw (.slice none 0 0)] (.mk k n i []):=Nq Jm rfl
theorem Ox {k i:Int}{n:Bs}{xs:List Exp}{cs:List AV}{t:Option Nat}{m:Nat}(hm:m=xs.length)(h:Xy cs (Exp.cellsL xs)):IsE [i64 k,.str n,i64 i,.slice 4 m cs t] (.mk k n i xs):=by
 subst hm;exact Nq (T0 h) rfl
theorem IsE.take {cs:List AV}{x:Exp}(h:IsE cs x):cs.take 4=cs:=dX (by rw[h.len];exact fG _)
theorem lit_one {z:List Value}{a:AV}(ha:a.cells.length=z.length):Xz z.length 1 z [(0,a)]=some a.cells:=Jf z a ha rfl
theorem lit2 {a b:AV}(ha:a.cells.length=4)(hb:b.cells.length=4):Xz 4 2 [.int .i64 0,.string ⟨#[]⟩,.int .i64 0,.slice none 0 0] [(0,a),(1,b)]=some (a.cells++b.cells):=by
 simp only[Xz,cJ,dH,Xv,Nat.zero_mul,Nat.one_mul]
 rw[fC ⟨ha,by simp⟩,fC ⟨hb,by simp [ha]⟩]
 simp [VP,ha,List.take_append,List.drop_append]
theorem SZ {l:List AV}(h:l.length=4):∃a b c d,l=[a,b,c,d]:=by
 match l,h with
 |[a,b,c,d],_=>exact⟨a,b,c,d,rfl⟩
theorem lit3 {a b c:AV}(ha:a.cells.length=4)(hb:b.cells.length=4)(hc:c.cells.length=4):Xz 4 3 [.int .i64 0,.string ⟨#[]⟩,.int .i64 0,.slice none 0 0] [(0,a),(1,b),(2,c)]=some (a.cells++b.cells++c.cells):=by
 simp only[Xz,cJ,dH,Xv,Nat.zero_mul,Nat.one_mul]
 rw[fC ⟨ha,by simp⟩,fC ⟨hb,by simp [ha]⟩,fC ⟨hc,by simp [ha,hb]⟩]
 obtain⟨a1,a2,a3,a4,ea⟩:=SZ ha
 obtain⟨b1,b2,b3,b4,eb⟩:=SZ hb
 rw[ea,eb]
 simp [VP]
section
variable (G:Nat→Option (List AV))
structure EC (f:Nat):Prop where
 e:∀{A:Q3} {r:Nat} {s u:Bs},A r=some (rk s u)→At s u→s.length≤20000→10*u.length+9≤f→Qt Tryz.prog G 270 [.ptr r 0] A (Y5 r s A Zw (Z0 f u))
 r:∀{A:Q3} {r:Nat} {s u:Bs} {n:Nat},A r=some (rk s u)→At s u→s.length≤20000→1≤n→n≤6→10*u.length+9≤f+n→Qt Tryz.prog G 282 [.ptr r 0,i64 n] A (Y5 r s A Zw (JA f n u))
 u:∀{A:Q3} {r:Nat} {s u:Bs},A r=some (rk s u)→At s u→s.length≤20000→10*u.length+2≤f→Qt Tryz.prog G 291 [.ptr r 0] A (Y5 r s A Zw (Zv f u))
 p:∀{A:Q3} {r:Nat} {s u:Bs},A r=some (rk s u)→At s u→s.length≤20000→10*u.length+1≤f→Qt Tryz.prog G 293 [.ptr r 0] A (Y5 r s A Zw (JX f u))
theorem Xr {α:Type}{enc:α→AV}{cs:List AV}{a:α}{x:Exp}{u s:Bs}{r:Nat}{A A0:Q3}(hx:IsE cs x)(he:enc a=Zw x)(hA:QK r A0 A)(hr:A r=some (rk s u)):Vl (some (.agg cs)) (Y5 r s A0 enc (.ok a u)) A:=
 VO (by rw[he];exact YA hx.wk) hA hr
theorem NH (hG:Gl G){f:Nat}(ih:EC G f){A:Q3}{r:Nat}{s u:Bs}(hr:A r=some (rk s u))(hu:At s u)(hs:s.length≤20000)(hf:10*u.length+1≤f+1):Qt Tryz.prog G 293 [.ptr r 0] A (Y5 r s A Zw (JX (f+1) u)):=by
 refine Q4 l293 (fE rfl) ?_
 simp only[Bl,ZR,seval]
 intro c hc
 have hcr:=Q6 hr hc
 have hr0:=hr
 rw[We]at hr0
 have hr1:∀o,(A.upd c o) r=some (rk s u):=fun o=>by rw[Q5 hcr,hr]
 simp only[Q5 hcr,hr0,ZR,seval]
 refine⟨fun hk=> ?_,fun hk=> ?_⟩
 ·have hn:=WC.1 hk
  simp only[JX,hn,if_true]
  refine Z2 (CP G hG (hr1 _) hu hs) (by repeat first|exact QK.refl _ _|refine QK.at ?_ _|refine QK.set ?_ (by assumption) (by simp)) fun n u1 h1=> ?_
  simp only[Q5 hcr.symm,ZR,seval]
  exact Xr Kp rfl (by repeat first|exact QK.refl _ _|refine QK.at ?_ _|refine QK.set ?_ (by assumption) (by simp)) (by rw[Q5 hcr,Q0])
 ·have hn:JP u=false:=by
   cases hn:JP u with
   |false=>rfl
   |true=>exact absurd (WC.2 hn) hk
  simp only[JX,hn,cB,if_false]
  refine Q2 (XU G (hr1 _) hu (ZN (.inr (by decide))) hs) ?_
  by_cases hp:cur u=[40]
  ·have b1:=Beh.adv hu hp (by decide)
   have:=b1.lt
   simp only[fA hp,fC hp,ZR,seval]
   refine Z2 (ih.e (by exact Q0 ..) b1.at' hs (by omega)) (by repeat first|exact QK.refl _ _|refine QK.at ?_ _|refine QK.set ?_ (by assumption) (by simp)) fun x u1 h1=> ?_
   have b2:=JS _ _ _ _ b1.at' h1
   simp only[Zp,seval]
   intro d hd
   obtain⟨hdr,hd⟩:=Q9 hd
   obtain⟨hdc,hd⟩:=Q9 hd
   have hr2:∀o,(((A.upd c (some (.cells [.raw (.int .i64 0),.str [],.raw (.int .i64 0),.raw (.slice none 0 0)]))).upd r (some (rk s u1))).upd d o) r=some (rk s u1):=fun o=>by rw[Q5 hdr.symm,Q0]
   refine Z2 (Wa G (hr2 _) b2.at' (ZN (.inr (by decide))) hs) (by repeat first|exact QK.refl _ _|refine QK.at ?_ _|refine QK.set ?_ (by assumption) (by simp)) fun _ u2 h2=> ?_
   simp only[Q5 hdr,Q5 hdc.symm,Q5 hcr.symm,Zp,seval]
   exact Xr (KD x) rfl (by repeat first|exact QK.refl _ _|refine QK.at ?_ _|refine QK.set ?_ (by assumption) (by simp)) (by rw[Q5 hcr,Q0])
  ·simp only[fB hp,fD hp,ZR,seval]
   refine Z2 (Tp G (hr1 _) hu hs) (by repeat first|exact QK.refl _ _|refine QK.at ?_ _|refine QK.set ?_ (by assumption) (by simp)) fun n u1 h1=> ?_
   have b1:=QM _ _ _ _ hu h1
   simp only[Zp,seval]
   refine Q2 (XU G (by exact Q0 ..) b1.at' (ZN (.inr (by decide))) hs) ?_
   by_cases hp2:cur u1=[40]
   ·have b2:=Beh.adv b1.at' hp2 (by decide)
    have:=b1.lt
    have:=b2.lt
    simp only[fA hp2,fC hp2,Zp,seval]
    refine Z2 (k295 G (one:=fun u=>Z0 f u) (enc:=Zw) (fn:=270) (first:=[.ptr r 0]) (cap:=[]) (by exact Q0 ..) b2.at' hs (by omega) (fun A' u' _ hr' hu' hl=>ih.e hr' hu' hs (by omega)) JS (fun a=>a.cells_len) (fun a=>a.cells_one)) (by repeat first|exact QK.refl _ _|refine QK.at ?_ _|refine QK.set ?_ (by assumption) (by simp)) fun l u2 h2=> ?_
    simp only[Qy,Q5 hcr.symm,Zp,seval]
    exact Xr (Ox rfl (by rw[Exp.cellsL_eq];exact Y6 _)) rfl (by repeat first|exact QK.refl _ _|refine QK.at ?_ _|refine QK.set ?_ (by assumption) (by simp)) (by rw[Q5 hcr,Q0])
   ·simp only[fB hp2,fD hp2,Q5 hcr.symm,Zp,seval]
    exact Xr Kp rfl (by repeat first|exact QK.refl _ _|refine QK.at ?_ _|refine QK.set ?_ (by assumption) (by simp)) (by rw[Q5 hcr,Q0])
theorem Pc (hG:Gl G){f:Nat}(ih:EC G f){A:Q3}{r:Nat}{s u:Bs}(hr:A r=some (rk s u))(hu:At s u)(hs:s.length≤20000)(hf:10*u.length+2≤f+1):Qt Tryz.prog G 291 [.ptr r 0] A (Y5 r s A Zw (Zv (f+1) u)):=by
 refine Q4 l291 (fE rfl) ?_
 simp only[Bm,Zp,seval]
 intro c hc
 have hcr:=Q6 hr hc
 have hr1:∀o,(A.upd c o) r=some (rk s u):=fun o=>by rw[Q5 hcr,hr]
 refine Q2 (XU G (hr1 _) hu (ZN (.inr (by decide))) hs) ?_
 by_cases hp:cur u=[33]
 ·have b1:=Beh.adv hu hp (by decide)
  have:=b1.lt
  simp only[Zv]
  simp only[fA hp,fC hp,Zp,seval]
  refine Z2 (ih.u (by exact Q0 ..) b1.at' hs (by omega)) (by repeat first|exact QK.refl _ _|refine QK.at ?_ _|refine QK.set ?_ (by assumption) (by simp)) fun x u1 h1=> ?_
  simp only[Zp,seval]
  refine QY (cs:=x.cells) (Jf _ _ (x.cells_len) (by decide)) fun t ht=> ?_
  obtain⟨htr,ht⟩:=Q9 ht
  obtain⟨htc,ht⟩:=Q9 ht
  simp only[Q5 htc.symm,Q5 hcr.symm,Zp,seval]
  exact Xr (Ox (xs:=[x]) rfl (by simpa[Exp.cellsL]using Y6 _)) rfl (by repeat first|exact QK.refl _ _|refine QK.at ?_ _|refine QK.set ?_ (by assumption) (by simp)) (by rw[Q5 hcr,Q5 htr.symm,Q0])
 simp only[fB hp,fD hp,Zp,seval]
 refine Q2 (XU G (hr1 _) hu (ZN (.inr (by decide))) hs) ?_
 by_cases hm:cur u=[45]
 ·have b1:=Beh.adv hu hm (by decide)
  have:=b1.lt
  simp only[Zv]
  rw[fD hp,fC (show cur u=YI from hm)]
  simp only[fA hm,fC hm,We,Zp,seval]
  simp only[←We]
  refine⟨fun hk=> ?_,fun hk=> ?_⟩
  ·have hn:=WC.1 hk
   rw[fC hn]
   refine Z2 (CP G hG (by exact Q0 ..) b1.at' hs) (by repeat first|exact QK.refl _ _|refine QK.at ?_ _|refine QK.set ?_ (by assumption) (by simp)) fun n u1 h1=> ?_
   simp only[Q5 hcr.symm,Zp,seval]
   exact Xr Kp rfl (by repeat first|exact QK.refl _ _|refine QK.at ?_ _|refine QK.set ?_ (by assumption) (by simp)) (by rw[Q5 hcr,Q0])
  ·have hn:JP (adv u)=false:=by
    cases hn:JP (adv u)with
    |false=>rfl
    |true=>exact absurd (WC.2 hn) hk
   rw[fD (by simp [hn])]
   refine Z2 (ih.u (by exact Q0 ..) b1.at' hs (by omega)) (by repeat first|exact QK.refl _ _|refine QK.at ?_ _|refine QK.set ?_ (by assumption) (by simp)) fun x u1 h1=> ?_
   simp only[Zp,seval]
   refine QY (cs:=x.cells) (Jf _ _ (x.cells_len) (by decide)) fun t ht=> ?_
   obtain⟨htr,ht⟩:=Q9 ht
   obtain⟨htc,ht⟩:=Q9 ht
   simp only[Q5 htc.symm,Q5 hcr.symm,Zp,seval]
   exact Xr (Ox (xs:=[x]) rfl (by simpa[Exp.cellsL]using Y6 _)) rfl (by repeat first|exact QK.refl _ _|refine QK.at ?_ _|refine QK.set ?_ (by assumption) (by simp)) (by rw[Q5 hcr,Q5 htr.symm,Q0])
 simp only[Zv]
 rw[fD hp,fD (show¬cur u=YI from hm)]
 simp only[fB hm,fD hm,Zp,seval]
 have e:∀R:Res Exp,R=R.bind fun x u=>.ok x u:=fun R=>by cases R <;> rfl
 rw[e (JX f u)]
 refine Z2 (ih.p (hr1 _) hu hs (by omega)) (by repeat first|exact QK.refl _ _|refine QK.at ?_ _|refine QK.set ?_ (by assumption) (by simp)) fun x u1 h1=> ?_
 simp only[Q5 hcr.symm,Zp,seval]
 exact Xr (KD x) rfl (by repeat first|exact QK.refl _ _|refine QK.at ?_ _|refine QK.set ?_ (by assumption) (by simp)) (by rw[Q5 hcr,Q0])
theorem F9 {f:Nat}(ih:EC G f){A:Q3}{r:Nat}{s u:Bs}(hr:A r=some (rk s u))(hu:At s u)(hs:s.length≤20000)(hf:10*u.length+9≤f+1):Qt Tryz.prog G 270 [.ptr r 0] A (Y5 r s A Zw (Z0 (f+1) u)):=by
 refine Q4 l270 (fE rfl) ?_
 simp only[Bt,Zp,seval]
 intro c hc
 have hcr:=Q6 hr hc
 simp only[Z0]
 refine Z2 (ih.r (n:=1) (by rw[Q5 hcr,hr]) hu hs (by decide) (by decide) (by omega)) (by repeat first|exact QK.refl _ _|refine QK.at ?_ _|refine QK.set ?_ (by assumption) (by simp)) fun x u1 h1=> ?_
 have b1:=(Hk f).r _ _ _ _ _ hu h1
 simp only[Zp,seval]
 intro d hd
 obtain⟨hdr,hd⟩:=Q9 hd
 obtain⟨hdc,hd⟩:=Q9 hd
 refine Q2 (XU G (by rw[Q5 hdr.symm,Q0]) b1.at' (ZN (.inr (by decide))) hs) ?_
 by_cases hq:cur u1=[63]
 ·have b2:=Beh.adv b1.at' hq (by decide)
  have:=b1.lt
  have:=b2.lt
  simp only[fA hq,fC hq,Zp,seval]
  refine Z2 (ih.e (by exact Q0 ..) b2.at' hs (by omega)) (by repeat first|exact QK.refl _ _|refine QK.at ?_ _|refine QK.set ?_ (by assumption) (by simp)) fun y u2 h2=> ?_
  have b3:=JS _ _ _ _ b2.at' h2
  simp only[Zp,seval]
  intro e he
  obtain⟨her,he⟩:=Q9 he
  obtain⟨hed,he⟩:=Q9 he
  obtain⟨_,he⟩:=Q9 he
  obtain⟨hec,he⟩:=Q9 he
  refine Z2 (Wa G (by rw[Q5 her.symm,Q0]) b3.at' (ZN (.inr (by decide))) hs) (by repeat first|exact QK.refl _ _|refine QK.at ?_ _|refine QK.set ?_ (by assumption) (by simp)) fun _ u3 h3=> ?_
  have b4:=Qn (by decide) _ _ _ _ b3.at' h3
  have:=b3.lt
  have:=b4.lt
  simp only[Q5 hdr,Q5 her,Q5 hed.symm,Zp,seval]
  refine Z2 (ih.e (by exact Q0 ..) b4.at' hs (by omega)) (by repeat first|exact QK.refl _ _|refine QK.at ?_ _|refine QK.set ?_ (by assumption) (by simp)) fun z u4 h4=> ?_
  simp only[Q5 hdr,Q5 her,Q5 hed.symm,I4,Zp,seval]
  refine⟨by simp,QY (lit3 (by simp [Xj,Exp.cells_len]) (by simp [Xj,Exp.cells_len]) (Kl z▸z.cells_len)) fun t ht=> ?_⟩
  obtain⟨htr,ht⟩:=Q9 ht
  obtain⟨hte,ht⟩:=Q9 ht
  obtain⟨_,ht⟩:=Q9 ht
  obtain⟨htd,ht⟩:=Q9 ht
  obtain⟨_,ht⟩:=Q9 ht
  obtain⟨htc,ht⟩:=Q9 ht
  simp only[Q5 htc.symm,Q5 hcr.symm,Q5 hec.symm,Q5 hdc.symm,Zp,seval]
  exact Xr (Ox (xs:=[x,y,z]) rfl (by simpa[Exp.cellsL,Xj,Kl]using Y6 _)) rfl (by repeat first|exact QK.refl _ _|refine QK.at ?_ _|refine QK.set ?_ (by assumption) (by simp)) (by rw[Q5 hcr,Q5 htr.symm,Q0])
 ·simp only[fB hq,fD hq,Q5 hdr,Q5 hdc.symm,Q5 hcr.symm,Zp,seval]
  exact Xr (KD x) rfl (by repeat first|exact QK.refl _ _|refine QK.at ?_ _|refine QK.set ?_ (by assumption) (by simp)) (by rw[Q5 hcr,Q5 hdr.symm,Q0])
def GH:List Bs:=[[124,124],[38,38],[60],[60,61],[61,61],[33,61],[62,61],[62],[43],[45],[42],[47],[37]]
theorem Pq {n:Nat}{t:Bs}{k:Int}(h:JE n t=some k):t∈GH:=by
 have key:∀(l:List (Bs×Int)),l.lookup t=some k→(t,k)∈l:=by
  intro l
  induction l with
  |nil=>intro h;cases h
  |cons p l ih=>
   obtain⟨a,b⟩:=p
   intro h
   rw[List.lookup_cons]at h
   cases hb:t==a with
   |true=>simp only[hb,cA]at h;rw[beq_iff_eq.1 hb,h];exact dO
   |false=>simp only[hb]at h;exact dI _ (ih h)
 have h1:=key _ h
 have h2:∀p∈ZH n,p.1∈GH:=by
  unfold ZH
  split <;> decide
 exact h2 _ h1
theorem NL {u:Bs}{c:UInt8}{t:Bs}(h:cur u=c::t)(hl:Y1 c=false)(hd:ZX c=false)(hm:c∈XX):Jv u=3:=by
 obtain⟨r,rfl⟩:=UV h
 simp [Jv,hl,hd,hm]
theorem RH {n:Nat}{u:Bs}{k:Int}(h:JE n (cur u)=some k):Jv u=3:=by
 have hm:=Pq h
 generalize hc:cur u=t at hm
 simp only[GH,dT,dL,or_false]at hm
 rcases hm with rfl|rfl|rfl|rfl|rfl|rfl|rfl|rfl|rfl|rfl|rfl|rfl|rfl
 ·exact(M9 (a:=124) (b:=124) (by decide) (by decide) (by decide) u hc).elim (fun h=>by
   obtain⟨r,rfl⟩:=UV hc
   have:Y1 124=false:=by decide
   have h2:ZX 124=false:=by decide
   simp only[Jv,this,h2,cB,if_false]at h
   split at h <;> cases h) id
 ·exact(M9 (a:=38) (b:=38) (by decide) (by decide) (by decide) u hc).elim (fun h=>by
   obtain⟨r,rfl⟩:=UV hc
   have:Y1 38=false:=by decide
   have h2:ZX 38=false:=by decide
   simp only[Jv,this,h2,cB,if_false]at h
   split at h <;> cases h) id
 all_goals exact NL hc (by decide) (by decide) (by decide)
theorem RB {f:Nat}(ih:∀f'≤f,EC G f'){A:Q3}{r:Nat}{s u:Bs}{n:Nat}(hr:A r=some (rk s u))(hu:At s u)(hs:s.length≤20000)(hn1:1≤n)(hn6:n≤6)(hf:10*u.length+9≤f+1+n):Qt Tryz.prog G 282 [.ptr r 0,i64 n] A (Y5 r s A Zw (JA (f+1) n u)):=by
 refine Q4 l282 (fE rfl) ?_
 simp only[Bp,Zp,seval]
 intro c hc
 have hcr:=Q6 hr hc
 have hr1:∀o,(A.upd c o) r=some (rk s u):=fun o=>by rw[Q5 hcr,hr]
 have hw:IntKind.i64.wrap ((n:Int)+1)=((n+1:Nat):Int):=by rw[Qg (by omega) (by omega)];rfl
 have e:∀R:Res Exp,R=R.bind fun x u=>.ok x u:=fun R=>by cases R <;> rfl
 refine⟨fun hn=> ?_,fun hn=> ?_⟩
 ·simp only[JA]
  rw[fC (by omega),e (Zv f u)]
  refine Z2 ((ih f (fG _)).u (hr1 _) hu hs (by omega)) (by repeat first|exact QK.refl _ _|refine QK.at ?_ _|refine QK.set ?_ (by assumption) (by simp)) fun x u1 h1=> ?_
  simp only[Q5 hcr.symm,Zp,seval]
  exact Xr (KD x) rfl (by repeat first|exact QK.refl _ _|refine QK.at ?_ _|refine QK.set ?_ (by assumption) (by simp)) (by rw[Q5 hcr,Q0])
 ·simp only[JA]
  rw[fD (by omega),hw]
  refine Z2 ((ih f (fG _)).r (hr1 _) hu hs (by omega) (by omega) (by omega)) (by repeat first|exact QK.refl _ _|refine QK.at ?_ _|refine QK.set ?_ (by assumption) (by simp)) fun x u1 h1=> ?_
  have b1:=(Hk f).r _ _ _ _ _ hu h1
  have:=b1.lt
  simp only[Zp,seval]
  intro d hd
  obtain⟨hdr,hd⟩:=Q9 hd
  obtain⟨hdc,hd⟩:=Q9 hd
  refine Qk (CQ G _) ?_
  rintro o A1 ⟨ms,rfl,hml,hov,_,hms⟩
  obtain⟨m,hm1,hm2⟩:=hms n hn1 (by omega)
  simp only[Zp,seval]
  refine JY (v:=.map m) ?_ ?_
  ·rw[fC ⟨by omega,by omega⟩];simpa using hm1
  have hdn:∀{k o},((A.upd c o).upd r k) d=none:=fun{k o}=>by rw[Q5 hdr,Q5 hdc];exact hd
  simp only[Zp,seval]
  have hrd:∀{k k' k'':Option AObj},((((A.upd c k).upd r (some (rk s u1))).upd d k') r)=some (rk s u1):=fun{k k' k''}=>by rw[Q5 hdr.symm,Q0]
  refine Qv (fun k env ds A'=>∃(x':Exp) (cs cz:List AV) (u':Bs) (f':Nat),k=u'.length∧env 0=.ptr r 0∧env 1=i64 n∧env 4=.ptr c 0∧env 5=.ptr d 0∧env 6=.map m∧ds=[]∧At s u'∧u'.length<u.length∧A' r=some (rk s u')∧
   A' d=some (.cells cs)∧IsE cs x'∧A' c=some (.cells cz)∧cz.length=4∧A' m=some (.mp (Ok (ZH n)))∧QK r A A'∧f'≤f∧10*u'.length+1≤f'∧ZU f n x u1=ZU f' n x' u') u1.length
   ⟨x,x.cells,_,u1,f,rfl,rfl,rfl,rfl,rfl,rfl,rfl,b1.at',b1.lt,hov.keep (by rw[Q5 hdr.symm,Q0]),hov.keep (Q0 ..),KD x,hov.keep (by rw[Q5 hdc.symm,Q5 hcr.symm,Q0]),rfl,hm2,?_,fG _,by omega,rfl⟩ ?_
  ·exact QK.trans (by repeat first|exact QK.refl _ _|refine QK.at ?_ _|refine QK.set ?_ (by assumption) (by simp)) (hov.over r)
  rintro k env ds A' ⟨x',cs,cz,u',f',rfl,h0,h1',h4,h5,h6,rfl,hu',hlt,hr',hd',hx',hc',hcz,hm',hov',hff,hfu,hR⟩
  have hrr:=hr'
  rw[We]at hrr
  obtain⟨p1,p2,p3,p4,rfl⟩:=SZ hx'.len
  obtain⟨q1,q2,q3,q4,rfl⟩:=SZ hcz
  obtain⟨f',rfl⟩:∃g,f'=g+1:=⟨f' - 1,by omega⟩
  have hcd:c≠d:=hdc.symm
  have hfin:ZU (f'+1) n x' u'=.ok x' u'→Vl (some (.agg [p1,p2,p3,p4])) (Y5 r s A Zw (ZU f n x u1)) (A'.upd c (some (.cells [p1,p2,p3,p4]))):=fun he=>by
   rw[hR,he]
   exact Xr hx' rfl (hov'.set hc (by simp)) (by rw[Q5 hcr,hr'])
  simp only[h0,h1',h4,h5,h6,hrr,hd',hc',hx'.len,hx'.take,hx'.one,hcz,Zp,seval]
  refine⟨fun hk=> ?_,fun hk=> ?_⟩
  ·refine Q2 (To G hr' hu') ?_
   simp only[h0,h1',h4,h5,h6,hm',YS,Ls,Zp,seval]
   have hle:n≤5:=by omega
   cases ho:JE n (cur u')with
   |none=>
    have ho':(ZH n).lookup (cur u')=none:=ho
    simp only[ho',Zi,Mz,h0,h1',h4,h5,h6,hd',hc',hx'.len,hx'.take,hx'.one,hcz,Zp,seval]
    exact hfin (by simp only[ZU,ho])
   |some k=>
    have ho':(ZH n).lookup (cur u')=some k:=ho
    have hcn:=KX ho
    have b2:=Beh.adv hu' rfl hcn
    have:=b2.lt
    simp only[ho',h0,h1',h4,h5,h6,Zp,seval]
    refine Q2 (Tq G hr' hu' hs) ?_
    simp only[h0,h1',h4,h5,h6,Q5 hdr,hd',hx'.len,hx'.take,hx'.one,Zp,seval]
    rw[hw,hR]
    simp only[ZU,ho]
    refine Z2 ((ih f' (by omega)).r (by exact Q0 ..) b2.at' hs (by omega) (by omega) (by omega)) (hov'.at _) fun y u2 h2=> ?_
    have b3:=(Hk f').r _ _ _ _ _ b2.at' h2
    have:=b3.lt
    simp only[Q5 hdr,hd',hx'.len,hx'.take,I4,Zp,seval]
    refine⟨by simp,QY (lit2 (by simp [Xj,hx'.len]) (Kl y▸y.cells_len)) fun t ht=> ?_⟩
    obtain⟨htr,ht⟩:=Q9 ht
    have htd:t≠d:=(Q6 hd' ht).symm
    have htc:t≠c:=(Q6 hc' ht).symm
    have htm:t≠m:=(Q6 hm' ht).symm
    have hmr:m≠r:=fun e=>by rw[e,hr']at hm';simp [rk,JN]at hm'
    have hmd:m≠d:=fun e=>by rw[e,hd']at hm';simp at hm'
    have h0t:=hov'.gone htr ht
    have hz:IsE [i64 k,.str [],i64 0,.slice 4 2 ([p1,p2,p3,p4]++y.cells) (some t)] (.mk k [] 0 [x',y]):=Ox (xs:=[x',y]) rfl (by simpa[Exp.cellsL]using H2 hx'.wk (Y6 _))
    have hO:QK r A ((((A'.upd r (some (rk s u2))).upd t (some .tip)).upd d (some (.cells [i64 k,.str [],i64 0,.slice 4 2 ([p1,p2,p3,p4]++y.cells) (some t)])))):=QK.set (QK.set (QK.at hov' _) h0t (by simp)) hd (by simp)
    simp only[Q5 htd.symm,Q5 hdr,hd',hx'.len,h0,h1',h4,h5,h6,Zp,seval]
    refine⟨fun h3=> ?_,fun h3=> ?_⟩
    ·rw[fC (by omega)]
     simp only[Q5 hcd,Q5 htc.symm,Q5 hcr.symm,hc',hcz,h0,h1',h4,h5,h6,Zp,seval]
     exact Xr hz rfl (hO.set hc (by simp)) (by rw[Q5 hcr,Q5 hdr.symm,Q5 htr.symm,Q0])
    ·refine⟨u2.length,by omega,_,_,[q1,q2,q3,q4],u2,f',rfl,b3.at',by omega,?_,rfl,hz,?_,rfl,?_,hO,by omega,by omega,by simp only[h2,Q7];rw[fD (by omega)]⟩
     ·rw[Q5 hdr.symm,Q5 htr.symm,Q0]
     ·rw[Q5 hcd,Q5 htc.symm,Q5 hcr.symm,hc']
     ·rw[Q5 hmd,Q5 htm.symm,Q5 hmr,hm']
  ·exact hfin (by
    simp only[ZU]
    cases ho:JE n (cur u')with
    |none=>rfl
    |some k=>exact absurd (RH ho) hk)
theorem vO (hG:Gl G):∀f,(∀f'<f,EC G f')→EC G f
 |0,_=>⟨fun _ _ _ h=>by omega,fun _ _ _ _ h6 h=>by omega,fun _ _ _ h=>by omega,fun _ _ _ h=>by omega⟩
 |f+1,ih=>
  have ih':∀f'≤f,EC G f':=fun f' h=>ih f' (by omega)
  ⟨fun hr hu hs hf=>F9 G (ih' f (fG _)) hr hu hs hf,fun hr hu hs h1 h6 hf=>RB G ih' hr hu hs h1 h6 hf,fun hr hu hs hf=>Pc G hG (ih' f (fG _)) hr hu hs hf,fun hr hu hs hf=>NH G hG (ih' f (fG _)) hr hu hs hf⟩
theorem ec (hG:Gl G)(f:Nat):EC G f:=by
 induction f using Nat.strongRecOn with
 |_ f ih=>exact vO G hG f ih
theorem Tn (hG:Gl G){f:Nat}{A:Q3}{r:Nat}{s u:Bs}(hr:A r=some (rk s u))(hu:At s u)(hs:s.length≤20000)(hf:10*u.length+9≤f):Qt Tryz.prog G 270 [.ptr r 0] A (Y5 r s A Zw (Z0 f u)):=(ec G hG f).e hr hu hs hf
end
def T4 (x:Stmt):AV:=.agg x.cells
theorem Stmt.cells_one:∀x:Stmt,x.cells.all AV.one=true
 | .mk _ _ v _ _=>by simp [Stmt.cells,Exp.cells_one v,LS,Ha,one_sl]
def Ux (f:Func):AV:=.agg f.cells
theorem Nf (l:List Stmt):Qy 8 Stmt.cells l=.slice 8 l.length (Stmt.cellsL l) none:=by rw[Stmt.cellsL_eq];rfl
theorem Gm {A:Q3}{c m r:Nat}{X:Option AObj}(h:K7 (A.upd c X) m)(hc:A c=none):∀j l e,A j=some (.mit (some m) l e)→j=r:=fun j l e hj=>by
 have:j≠c:=fun e=>by rw[e,hc]at hj;cases hj
 exact absurd rfl (h j _ l e (by rw[Q5 this];exact hj))
def Oe:AV×AV:=(i64 3,.str JM)
def X9:AV×AV:=(i64 4,.str YH)
def zS:List AV:=[.raw (.int .i64 0),.str [],.raw (.int .i64 0),.str [],.raw (.int .i64 0),.raw (.slice none 0 0),.raw (.slice none 0 0),.raw (.slice none 0 0)]
theorem EK:Om JM:=ZN (.inl (by decide))
theorem P9:Om YH:=ZN (.inl (by decide))
theorem N1 {k xk xi:Int}{n xn:Bs}{xs:List Exp}{b e:List Stmt}{bA eA:AV}(hb:Wk bA (.slice 8 b.length (Stmt.cellsL b) none))(he:Wk eA (.slice 8 e.length (Stmt.cellsL e) none)):
 Xy [i64 k,.str n,i64 xk,.str xn,i64 xi,.slice 4 xs.length (Exp.cellsL xs) none,bA,eA] (Stmt.mk k n (.mk xk xn xi xs) b e).cells:=
 .cons (Wk.refl _) (.cons (Wk.refl _) (.cons (Wk.refl _) (.cons (Wk.refl _) (.cons (Wk.refl _) (.cons (Wk.refl _) (.cons hb (.cons he .nil)))))))
section
variable (G:Nat→Option (List AV))
structure SC (f:Nat):Prop where
 b:∀{A:Q3} {r:Nat} {s u:Bs},A r=some (rk s u)→At s u→s.length≤20000→10*u.length+11≤f→Qt Tryz.prog G 219 [.ptr r 0] A (Y5 r s A (Qy 8 Stmt.cells) (ZF f u))
 s:∀{A:Q3} {r:Nat} {s u:Bs},A r=some (rk s u)→At s u→s.length≤20000→10*u.length+10≤f→Qt Tryz.prog G 249 [.ptr r 0] A (Y5 r s A T4 (ZL f u))
theorem Pd {f:Nat}(ih:SC G f){A:Q3}{r:Nat}{s u:Bs}(hr:A r=some (rk s u))(hu:At s u)(hs:s.length≤20000)(hf:10*u.length+11≤f+1):Qt Tryz.prog G 219 [.ptr r 0] A (Y5 r s A (Qy 8 Stmt.cells) (ZF (f+1) u)):=by
 refine Q4 l219 (fE rfl) ?_
 simp only[BW,Zp,seval]
 simp only[ZF]
 refine Z2 (Wa G hr hu (ZN (.inr (by decide))) hs) (by repeat first|exact QK.refl _ _|refine QK.at ?_ _|refine QK.set ?_ (by assumption) (by simp)) fun _ u1 h1=> ?_
 have b1:=Qn (by decide) _ _ _ _ hu h1
 have:=b1.lt
 have:=hu.le
 simp only[Zp,seval]
 refine Qv (fun n env ds A'=>∃(l:List Stmt) (v:AV) (u':Bs) (f':Nat),n=u'.length∧env 0=.ptr r 0∧env 2=v∧((v=.raw (.slice none 0 0)∧l=[])∨∃t cs,v=.slice 8 l.length cs (some t)∧Xy cs (l.flatMap Stmt.cells)∧A' t=some .tip∧A t=none)∧ds=[]∧At s u'∧u'.length≤u1.length∧
  l.length+u'.length≤s.length∧A' r=some (rk s u')∧QK r A A'∧u'.length<f'∧ZE (fun u=>ZL f u) f [] u1=ZE (fun u=>ZL f u) f' l u') u1.length
  ⟨[],_,u1,f,rfl,rfl,rfl,.inl ⟨rfl,rfl⟩,rfl,b1.at',fG _,by simp;omega,Q0 ..,(by repeat first|exact QK.refl _ _|refine QK.at ?_ _|refine QK.set ?_ (by assumption) (by simp)),by omega,rfl⟩ ?_
 rintro n env ds A' ⟨l,v,u',f',rfl,h0,h2,hv,rfl,hu',hlt,hlen,hr',hov,hf',hR⟩
 obtain⟨f',rfl⟩:∃m,f'=m+1:=⟨f' - 1,by omega⟩
 simp only[h0,h2,Zp,seval]
 refine Q2 (XU G hr' hu' (ZN (.inr (by decide))) hs) ?_
 rw[hR]
 by_cases hc:cur u'=[125]
 ·simp only[fA hc,fC hc,ZE,h2,Zp,seval]
  rcases hv with⟨rfl,rfl⟩|⟨t,cs,rfl,hw,_,_⟩
  ·exact VO Jm (hov.at _) (Q0 ..)
  ·exact VO (T0 hw) (hov.at _) (Q0 ..)
 ·simp only[fB hc,fD hc,ZE,h0,h2,Zp,seval]
  refine Z2 (ih.s hr' hu' hs (by omega)) hov fun x u2 hx=> ?_
  have b2:=(HW f).s _ _ _ _ hu' hx
  have:=b2.lt
  simp only[Zp,seval]
  refine QY (cs:=x.cells) (Jf _ _ (x.cells_len) (by decide)) fun t2 ht2=> ?_
  obtain⟨e1,ht2⟩:=Q9 ht2
  have e1a:=hov.gone e1 ht2
  rcases hv with⟨rfl,rfl⟩|⟨t,cs,rfl,hw,ht,hta⟩
  ·simp only[h2,ZB,W2,Nat.one_ne_zero,Zp,seval]
   intro t3 ht3
   obtain⟨e3,ht3⟩:=Q9 ht3
   obtain⟨e4,ht3⟩:=Q9 ht3
   have e4a:=hov.gone e4 ht3
   refine⟨u2.length,by omega,[x],_,u2,f',rfl,h0,rfl,.inr ⟨t3,_,rfl,by simpa using Y6 _,Q0 ..,e4a⟩,b2.at',by omega,by simp at hlen⊢;omega,?_,?_,by omega,by simp only[hx,Q7]⟩
   ·rw[Q5 e4.symm,Q5 e1.symm,Q0]
   ·exact QK.set (QK.set (QK.at hov _) e1a (by simp)) e4a (by simp)
  ·have e2:t2≠t:=(Q6 ht ht2).symm
   have htr:t≠r:=fun e=>by subst e;rw[hr']at ht;simp [rk,JN]at ht
   simp only[h2,ZB,V9,Zp,seval]
   refine⟨by simp [Q3.upd,htr,e2.symm,ht],by omega,x.cells_one,fun t3 ht3=> ?_⟩
   obtain⟨e3,ht3⟩:=Q9 ht3
   obtain⟨e4,ht3⟩:=Q9 ht3
   have e4a:=hov.gone e4 ht3
   refine⟨u2.length,by omega,l++[x],_,u2,f',rfl,h0,rfl,.inr ⟨t3,cs++x.cells,by simp,by simpa using H2 hw (Y6 _),Q0 ..,e4a⟩,b2.at',by omega,by simp;omega,?_,?_,by omega,by simp only[hx,Q7]⟩
   ·rw[Q5 e4.symm,Q5 htr.symm,Q5 e1.symm,Q0]
   ·exact QK.set (QK.set (QK.set (QK.at hov _) e1a (by simp)) hta (by simp)) e4a (by simp)
theorem NF (hG:Gl G){f:Nat}(ih:SC G f){A:Q3}{r:Nat}{s u:Bs}(hr:A r=some (rk s u))(hu:At s u)(hs:s.length≤20000)(hf:10*u.length+10≤f+1):Qt Tryz.prog G 249 [.ptr r 0] A (Y5 r s A T4 (ZL (f+1) u)):=by
 refine Q4 l249 (fE rfl) ?_
 simp only[BE,Zp,seval]
 intro c hc m hm nm
 have hcr:=Q6 hr hc
 refine V5 nm rfl ?_
 simp only[Zp,seval]
 refine V5 nm rfl ?_
 obtain⟨hmc,hm⟩:=Q9 hm
 have hmr:=Q6 hr hm
 simp only[Cx.rng,Zp,seval]
 intro it hit
 obtain⟨him,hit⟩:=Q9 hit
 obtain⟨hic,hit⟩:=Q9 hit
 have hir:=Q6 hr hit
 have hO1:QK r A ((A.upd c (some (.cells zS))).upd m (some (.mp [Oe,X9]))):=QK.mp (QK.set (QK.refl _ _) hc (by simp)) hm (Gm nm hc) _
 change Cx.run _ _ _ _ _ (((A.upd c (some (.cells zS))).upd m (some (.mp [Oe,X9]))).upd it (some (.mit (some m) [Oe,X9] none)))
 have hr1:((A.upd c (some (.cells zS))).upd m (some (.mp [Oe,X9]))) r=some (rk s u):=by rw[Q5 hmr,Q5 hcr,hr]
 have hc1:((A.upd c (some (.cells zS))).upd m (some (.mp [Oe,X9]))) c=some (.cells zS):=by rw[Q5 hmc.symm,Q0]
 generalize(A.upd c (some (.cells zS))).upd m (some (.mp [Oe,X9]))=B at hO1 hr1 hc1⊢
 refine Qv (fun n env ds A'=>∃(left:List (AV×AV)) (last:Option (AV×AV)),n=left.length∧env 0=.ptr r 0∧env 2=.ptr c 0∧env 7=.ptr it 0∧ds=[]∧A'=B.upd it (some (.mit (some m) left last))∧
  (∀p∈left,p=Oe∨p=X9)∧(Oe∈left∨¬cur u=JM)∧(X9∈left∨¬cur u=YH)) 2 ⟨[Oe,X9],none,rfl,rfl,rfl,rfl,rfl,rfl,by simp,by simp,by simp⟩ ?_
 rintro n env ds A' ⟨left,last,rfl,h0,h2,h7,rfl,rfl,hl,hl3,hl4⟩
 have hOit:∀x,(∀es,x≠some (.mp es))→QK r A (B.upd it x):=fun x hx=>hO1.set hit hx
 have hri:∀x,(B.upd it x) r=some (rk s u):=fun x=>by rw[Q5 hir,hr1]
 have hci:∀x,(B.upd it x) c=some (.cells zS):=fun x=>by rw[Q5 hic.symm,hc1]
 simp only[h0,h2,h7,Cx.nxt,Jp,Zp,seval]
 refine⟨fun hl0=> ?_,fun j k v hj=> ?_⟩
 ·have hB:=hOit (some (.mit (some m) left last)) (by simp)
  subst hl0
  have hif:¬cur u=JM:=hl3.resolve_left (by simp)
  have hwh:¬cur u=YH:=hl4.resolve_left (by simp)
  simp only[ZL]
  rw[fD hif,fD hwh]
  refine Q2 (XU G (hri _) hu (ZN (.inl (by decide))) hs) ?_
  by_cases hre:cur u=VV
  ·have b0:=Beh.adv hu hre (by decide)
   have:=b0.lt
   rw[fC hre]
   simp only[fA (show cur u=[114,101,116,117,114,110]from hre),fC (show cur u=[114,101,116,117,114,110]from hre),h0,h2,Q5 hcr.symm,hci,zS,Zp,seval]
   refine Z2 (Tn G hG (by rw[Q5 hcr,Q0]) b0.at' hs (by omega)) (by repeat(first|exact hB|refine QK.at ?_ _|refine QK.set ?_ (by assumption) (by simp))) fun x u1 h1=> ?_
   have b1:=JS _ _ _ _ b0.at' h1
   obtain⟨xk,xn,xi,xs⟩:=x
   simp only[h0,h2,Q5 hcr.symm,Zw,Exp.cells,Zp,seval]
   refine Z2 (Wa G (by rw[Q5 hcr,Q0]) b1.at' (ZN (.inr (by decide))) hs) (by repeat(first|exact hB|refine QK.at ?_ _|refine QK.set ?_ (by assumption) (by simp))) fun _ u2 h2'=> ?_
   simp only[h0,h2,Q5 hcr.symm,Zp,seval]
   exact VO (YA (N1 Jm Jm)) (by repeat(first|exact hB|refine QK.at ?_ _|refine QK.set ?_ (by assumption) (by simp))) (by rw[Q5 hcr,Q0])
  rw[fD hre]
  simp only[fB (show¬cur u=[114,101,116,117,114,110]from hre),fD (show¬cur u=[114,101,116,117,114,110]from hre),h0,h2,Zp,seval]
  refine Q2 (XU G (hri _) hu (ZN (.inl (by decide))) hs) ?_
  by_cases hva:cur u=VE
  ·have b0:=Beh.adv hu hva (by decide)
   have:=b0.lt
   rw[fC hva]
   simp only[fA (show cur u=[118,97,114]from hva),fC (show cur u=[118,97,114]from hva),h0,h2,Q5 hcr.symm,hci,zS,Zp,seval]
   refine Z2 (Tp G (by rw[Q5 hcr,Q0]) b0.at' hs) (by repeat(first|exact hB|refine QK.at ?_ _|refine QK.set ?_ (by assumption) (by simp))) fun n u1 h1=> ?_
   have b1:=QM _ _ _ _ b0.at' h1
   have:=b1.lt
   simp only[h0,h2,Q5 hcr.symm,Zp,seval]
   refine Z2 (Wa G (by rw[Q5 hcr,Q0]) b1.at' (ZN (.inr (by decide))) hs) (by repeat(first|exact hB|refine QK.at ?_ _|refine QK.set ?_ (by assumption) (by simp))) fun _ u2 h2'=> ?_
   have b2:=Qn (by decide) _ _ _ _ b1.at' h2'
   have:=b2.lt
   simp only[h0,h2,Zp,seval]
   refine Z2 (Tn G hG (by exact Q0 ..) b2.at' hs (by omega)) (by repeat(first|exact hB|refine QK.at ?_ _|refine QK.set ?_ (by assumption) (by simp))) fun x u3 h3=> ?_
   have b3:=JS _ _ _ _ b2.at' h3
   obtain⟨xk,xn,xi,xs⟩:=x
   simp only[h0,h2,Q5 hcr.symm,Zw,Exp.cells,Zp,seval]
   refine Z2 (Wa G (by rw[Q5 hcr,Q0]) b3.at' (ZN (.inr (by decide))) hs) (by repeat(first|exact hB|refine QK.at ?_ _|refine QK.set ?_ (by assumption) (by simp))) fun _ u4 h4'=> ?_
   simp only[h0,h2,Q5 hcr.symm,Zp,seval]
   exact VO (YA (N1 Jm Jm)) (by repeat(first|exact hB|refine QK.at ?_ _|refine QK.set ?_ (by assumption) (by simp))) (by rw[Q5 hcr,Q0])
  ·rw[fD hva]
   simp only[fB (show¬cur u=[118,97,114]from hva),fD (show¬cur u=[118,97,114]from hva),h0,h2,hci,zS,Zp,seval]
   refine Z2 (Tp G (by rw[Q5 hcr,hri]) hu hs) (by repeat(first|exact hB|refine QK.at ?_ _|refine QK.set ?_ (by assumption) (by simp))) fun n u1 h1=> ?_
   have b1:=QM _ _ _ _ hu h1
   have:=b1.lt
   simp only[h0,h2,Q5 hcr.symm,Zp,seval]
   refine Z2 (Wa G (by rw[Q5 hcr,Q0]) b1.at' (ZN (.inr (by decide))) hs) (by repeat(first|exact hB|refine QK.at ?_ _|refine QK.set ?_ (by assumption) (by simp))) fun _ u2 h2'=> ?_
   have b2:=Qn (by decide) _ _ _ _ b1.at' h2'
   have:=b2.lt
   simp only[h0,h2,Zp,seval]
   refine Z2 (Tn G hG (by exact Q0 ..) b2.at' hs (by omega)) (by repeat(first|exact hB|refine QK.at ?_ _|refine QK.set ?_ (by assumption) (by simp))) fun x u3 h3=> ?_
   have b3:=JS _ _ _ _ b2.at' h3
   obtain⟨xk,xn,xi,xs⟩:=x
   simp only[h0,h2,Q5 hcr.symm,Zw,Exp.cells,Zp,seval]
   refine Z2 (Wa G (by rw[Q5 hcr,Q0]) b3.at' (ZN (.inr (by decide))) hs) (by repeat(first|exact hB|refine QK.at ?_ _|refine QK.set ?_ (by assumption) (by simp))) fun _ u4 h4'=> ?_
   simp only[h0,h2,Q5 hcr.symm,Zp,seval]
   exact VO (YA (N1 Jm Jm)) (by repeat(first|exact hB|refine QK.at ?_ _|refine QK.set ?_ (by assumption) (by simp))) (by rw[Q5 hcr,Q0])
 ·obtain⟨kk,w,hkw,rfl,rfl⟩:∃kk w,((kk=3∧w=JM)∨(kk=4∧w=YH))∧k=i64 kk∧v=.str w:=by
   rcases hl _ (List.mem_of_getElem? hj)with h|h
   ·cases h;exact⟨3,JM,.inl ⟨rfl,rfl⟩,rfl,rfl⟩
   ·cases h;exact⟨4,YH,.inr ⟨rfl,rfl⟩,rfl,rfl⟩
  simp only[h0,h2,h7,Cx.ent,Jp,Zp,seval]
  have hww:Om w:=hkw.elim (fun h=>h.2▸EK) (fun h=>h.2▸P9)
  refine Q2 (XU G (hri _) hu hww hs) ?_
  by_cases hw:cur u=w
  ·have hS:ZL (f+1) u=(Ql [40] (adv u)).bind fun _ u1=>(Z0 f u1).bind fun x u2=>(Ql [41] u2).bind fun _ u3=>(ZF f u3).bind fun b u4=>
    if kk=3∧cur u4=VM then(ZF f (adv u4)).bind fun e u5=>.ok (.mk kk [] x b e) u5 else .ok (.mk kk [] x b []) u4:=by
    rcases hkw with⟨rfl,rfl⟩|⟨rfl,rfl⟩
    ·simp only[ZL,fC hw,true_and]
    ·have h1:¬cur u=JM:=by rw[hw];decide
     have h2:¬((4:Int)=3):=by decide
     simp only[ZL,fC hw,fD h1,h2,false_and,if_false]
   rw[hS]
   have hwn:w≠[]:=by rcases hkw with⟨_,rfl⟩|⟨_,rfl⟩ <;> decide
   have b0:=Beh.adv hu hw hwn
   have:=b0.lt
   have e1:∀x y,((B.upd it x).upd r y) c=some (.cells zS):=fun x y=>by rw[Q5 hcr.symm,hci]
   simp only[fA hw,fC hw,h0,h2,e1,zS,Zp,seval]
   have hB:=hOit (some (.mit (some m) (left.eraseIdx j) (some (i64 kk,.str w)))) (by simp)
   refine Z2 (Wa G (by rw[Q5 hcr,Q0]) b0.at' (ZN (.inr (by decide))) hs) (by repeat(first|exact hB|refine QK.at ?_ _|refine QK.set ?_ (by assumption) (by simp))) fun _ u1 h1=> ?_
   have b1:=Qn (by decide) _ _ _ _ b0.at' h1
   have:=b1.lt
   simp only[h0,h2,Zp,seval]
   refine Z2 (Tn G hG (by exact Q0 ..) b1.at' hs (by omega)) (by repeat(first|exact hB|refine QK.at ?_ _|refine QK.set ?_ (by assumption) (by simp))) fun x u2 h2'=> ?_
   have b2:=JS _ _ _ _ b1.at' h2'
   have:=b2.lt
   obtain⟨xk,xn,xi,xs⟩:=x
   simp only[h0,h2,Q5 hcr.symm,Zw,Exp.cells,Zp,seval]
   refine Z2 (Wa G (by rw[Q5 hcr,Q0]) b2.at' (ZN (.inr (by decide))) hs) (by repeat(first|exact hB|refine QK.at ?_ _|refine QK.set ?_ (by assumption) (by simp))) fun _ u3 h3=> ?_
   have b3:=Qn (by decide) _ _ _ _ b2.at' h3
   have:=b3.lt
   simp only[h0,h2,Zp,seval]
   refine Z2 (ih.b (by exact Q0 ..) b3.at' hs (by omega)) (by repeat(first|exact hB|refine QK.at ?_ _|refine QK.set ?_ (by assumption) (by simp))) fun b u4 h4=> ?_
   have b4:=(HW f).b _ _ _ _ b3.at' h4
   have:=b4.lt
   simp only[h0,h2,Q5 hcr.symm,Nf,Zp,seval]
   refine⟨fun h3'=> ?_,fun h3'=> ?_⟩
   ·refine Q2 (XU G (by rw[Q5 hcr,Q0]) b4.at' (ZN (.inl (by decide))) hs) ?_
    by_cases he:cur u4=VM
    ·have b5:=Beh.adv b4.at' he (by decide)
     have:=b5.lt
     rw[fC ⟨h3',he⟩]
     simp only[fA (show cur u4=[101,108,115,101]from he),fC (show cur u4=[101,108,115,101]from he),h0,h2,Zp,seval]
     refine Z2 (ih.b (by exact Q0 ..) b5.at' hs (by omega)) (by repeat(first|exact hB|refine QK.at ?_ _|refine QK.set ?_ (by assumption) (by simp))) fun e u5 h5=> ?_
     simp only[h0,h2,Q5 hcr.symm,Nf,Zp,seval]
     exact VO (YA (Y6 _)) (by repeat(first|exact hB|refine QK.at ?_ _|refine QK.set ?_ (by assumption) (by simp))) (by rw[Q5 hcr,Q0])
    ·rw[fD (fun h=>he h.2)]
     simp only[fB (show¬cur u4=[101,108,115,101]from he),fD (show¬cur u4=[101,108,115,101]from he),h0,h2,Q5 hcr.symm,Zp,seval]
     exact VO (YA (N1 (Wk.refl _) Jm)) (by repeat(first|exact hB|refine QK.at ?_ _|refine QK.set ?_ (by assumption) (by simp))) (by rw[Q5 hcr,Q0])
   ·rw[fD (fun h=>h3' h.1)]
    exact VO (YA (N1 (Wk.refl _) Jm)) (by repeat(first|exact hB|refine QK.at ?_ _|refine QK.set ?_ (by assumption) (by simp))) (by rw[Q5 hcr,Q0])
  ·simp only[fB hw,fD hw,Zp,seval]
   have hjl:j<left.length:=(fO.1 hj).1
   have hkeep:∀e∈left,e≠(i64 kk,.str w)→e∈left.eraseIdx j:=fun e he hne=>by
    obtain⟨i,hi⟩:=List.mem_iff_getElem?.1 he
    rw[List.mem_eraseIdx_iff_getElem?]
    exact⟨i,fun hij=>hne (by subst hij;rw[hj]at hi;cases hi;rfl),hi⟩
   refine⟨left.length - 1,by omega,left.eraseIdx j,_,by rw[List.length_eraseIdx,fC hjl],h0,h2,h7,rfl,fun p hp=>hl p (List.mem_of_mem_eraseIdx hp),?_,?_⟩
   ·rcases hl3 with h|h
    ·by_cases he:Oe=(i64 kk,.str w)
     ·refine .inr fun hc=>hw ?_
      simp [Oe]at he;rw[hc,he.2]
     ·exact .inl (hkeep _ h he)
    ·exact .inr h
   ·rcases hl4 with h|h
    ·by_cases he:X9=(i64 kk,.str w)
     ·refine .inr fun hc=>hw ?_
      simp [X9]at he;rw[hc,he.2]
     ·exact .inl (hkeep _ h he)
    ·exact .inr h
theorem P4 (hG:Gl G):∀f,SC G f
 |0=>⟨fun _ _ _ h=>by omega,fun _ _ _ h=>by omega⟩
 |f+1=>⟨fun hr hu hs hf=>Pd G (P4 hG f) hr hu hs hf,fun hr hu hs hf=>NF G hG (P4 hG f) hr hu hs hf⟩
theorem k169 (hG:Gl G){f:Nat}{A:Q3}{r:Nat}{s u:Bs}(hr:A r=some (rk s u))(hu:At s u)(hs:s.length≤20000)(hf:10*u.length+11≤f):Qt Tryz.prog G 169 [.ptr r 0] A (Y5 r s A Ux (V4 f u)):=by
 refine Q4 l169 (fE rfl) ?_
 simp only[Az,Zp,seval]
 intro c hc
 have hcr:=Q6 hr hc
 unfold V4
 refine Z2 (Wa G (by rw[Q5 hcr,hr]) hu (ZN (.inl (by decide))) hs) (by repeat first|exact QK.refl _ _|refine QK.at ?_ _|refine QK.set ?_ (by assumption) (by simp)) fun _ u1 h1=> ?_
 have b1:=Qn (by decide) _ _ _ _ hu h1
 have:=b1.lt
 simp only[Zp,seval]
 refine Z2 (Tp G (by exact Q0 ..) b1.at' hs) (by repeat first|exact QK.refl _ _|refine QK.at ?_ _|refine QK.set ?_ (by assumption) (by simp)) fun n u2 h2=> ?_
 have b2:=QM _ _ _ _ b1.at' h2
 have:=b2.lt
 simp only[Q5 hcr.symm,Zp,seval]
 refine Z2 (Wa G (by rw[Q5 hcr,Q0]) b2.at' (ZN (.inr (by decide))) hs) (by repeat first|exact QK.refl _ _|refine QK.at ?_ _|refine QK.set ?_ (by assumption) (by simp)) fun _ u3 h3=> ?_
 have b3:=Qn (by decide) _ _ _ _ b2.at' h3
 have:=b3.lt
 simp only[Zp,seval]
 refine Z2 (k218 G (one:=Za) (enc:=.str) (fn:=217) (first:=[.ptr r 0]) (cap:=[]) (by exact Q0 ..) b3.at' hs (by omega) (fun A' u' _ hr' hu' hl=>Tp G hr' hu' hs) QM (fun a=>rfl) (fun a=>rfl)) (by repeat first|exact QK.refl _ _|refine QK.at ?_ _|refine QK.set ?_ (by assumption) (by simp)) fun l u4 h4=> ?_
 have b4:=L7 QM _ _ _ _ b3.at' h4
 have:=b4.lt
 simp only[Q5 hcr.symm,Qy,MK,Zp,seval]
 refine Z2 ((P4 G hG f).b (by rw[Q5 hcr,Q0]) b4.at' hs (by omega)) (by repeat first|exact QK.refl _ _|refine QK.at ?_ _|refine QK.set ?_ (by assumption) (by simp)) fun b u5 h5=> ?_
 simp only[Q5 hcr.symm,Qy,Zp,seval]
 exact VO (YA (Y6 _)) (by repeat first|exact QK.refl _ _|refine QK.at ?_ _|refine QK.set ?_ (by assumption) (by simp)) (by rw[Q5 hcr,Q0])
end
end Go.Proofs.YtcbjbgaefighcaaGreatDoor
