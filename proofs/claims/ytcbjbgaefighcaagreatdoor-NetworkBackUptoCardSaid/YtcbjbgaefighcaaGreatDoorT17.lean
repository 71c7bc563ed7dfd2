/- Part 17 of the proof. -/
import Derived.Test.YtcbjbgaefighcaaGreatDoorT0
import Derived.Test.YtcbjbgaefighcaaGreatDoorT8
import Derived.Test.YtcbjbgaefighcaaGreatDoorT13
import Derived.Test.YtcbjbgaefighcaaGreatDoorT16
set_option linter.all false
namespace Go.Proofs.YtcbjbgaefighcaaGreatDoor
open Go Go.Ax Go.Proofs
section
variable (G:Nat→Option (List AV))
theorem Pi {s:Bs}{b:Nat}(hb:b≤s.length):JN s (b+QG false (s.drop b)) (b+QG false (s.drop b)+Z4 (s.drop (b+QG false (s.drop b)))) (Jv (s.drop (b+QG false (s.drop b))))=rk s (skip (s.drop b)):=by
 have h3:=YD (s.drop b) false
 simp only[dW]at h3
 have e2:s.length - (skip (s.drop b)).length=b+QG false (s.drop b):=by
  simp only[skip,dW];omega
 rw[rk,e2,←lC]
 rfl
theorem Bf {A:Q3}{s:Bs}{b:Nat}(hb:b≤s.length)(hs:s.length≤20000):
 Qt Tryz.prog G 166 [.str s,i64 b] A (fun o A'=>∃r,A r=none∧o=.ret (.ptr r 0)∧A'=A.upd r (some (rk s (skip (s.drop b))))):=by
 refine Q4 l166 (fE rfl) ?_
 simp only[AC,Q1,seval]
 intro r hr
 refine Q2 (B6 G (a:=0) (b:=b) (k:=0) (by exact Q0 ..) hb (by omega) _ rfl) ?_
 rw[Pi hb]
 simp only[Q1,seval]
 exact J0 (Wk.refl _) (U2.refl _) ⟨r,hr,rfl,rfl⟩
def P2 {α:Type}(r x:Nat)(s:Bs)(A:Q3)(enc:α→List AV):Res α→Out→Q3→Prop
 | .ok a u,o,A'=>o=.ret ZK∧A'=(A.upd r (some (rk s u))).upd x (some (.cells (enc a)))
 | .bad u,o,A'=>o=.pan (Ug 227 s u)∧A'=A.upd r none
theorem c273 (hG:Gl G){f:Nat}{A:Q3}{r p x:Nat}{s u:Bs}{zs:List AV}(hp:A p=some (.cells [.ptr r 0]))(hx:A x=some (.cells zs))(hz:zs.length=4)(hr:A r=some (rk s u))(hxr:x≠r)(hu:At s u)(hs:s.length≤20000)(hf:10*u.length+9≤f):
 Qt Tryz.prog G 273 [.ptr p 0,.ptr x 0] A (P2 r x s A Exp.cells (Z0 f u)):=by
 refine Q4 l273 (fE rfl) ?_
 simp only[Bq,hp,Q1,seval]
 refine Qk (Tn G hG hr hu hs hf) ?_
 intro o A' h
 cases hR:Z0 f u with
 |ok y u'=>
  rw[hR]at h
  obtain⟨rfl,rfl⟩:=h
  simp only[Q5 hxr,hx,hz,Q1,seval]
  exact J0 (Wk.refl _) (U2.refl _) ⟨rfl,rfl⟩
 |bad u'=>
  rw[hR]at h
  obtain⟨rfl,rfl⟩:=h
  simp only[XF,Q1,seval]
  exact⟨_,U2.refl _,rfl,rfl⟩
theorem c168 (hG:Gl G){f:Nat}{A:Q3}{r p x:Nat}{s u:Bs}(hp:A p=some (.cells [.ptr r 0]))(hx:A x=some (.cells [.str [],.raw (.slice none 0 0),.raw (.slice none 0 0)]))(hr:A r=some (rk s u))(hxr:x≠r)(hu:At s u)(hs:s.length≤20000)(hf:10*u.length+11≤f):
 Qt Tryz.prog G 168 [.ptr p 0,.ptr x 0] A (P2 r x s A Func.cells (V4 f u)):=by
 refine Q4 l168 (fE rfl) ?_
 simp only[AA,hp,Q1,seval]
 refine Qk (k169 G hG hr hu hs hf) ?_
 intro o A' h
 cases hR:V4 f u with
 |ok y u'=>
  rw[hR]at h
  obtain⟨rfl,rfl⟩:=h
  simp only[Q5 hxr,hx,Ux,Func.cells,Qy,Q1,seval]
  exact J0 (Wk.refl _) (U2.refl _) ⟨rfl,rfl⟩
 |bad u'=>
  rw[hR]at h
  obtain⟨rfl,rfl⟩:=h
  simp only[XF,Q1,seval]
  exact⟨_,U2.refl _,rfl,rfl⟩
theorem c215 {A:Q3}{a e:Nat}{s u:Bs}{v w:AV}(ha:A a=some (.cells [v]))(he:A e=some (.cells [w]))(hae:a≠e):
 K8 Tryz.prog G 215 [.ptr a 0,.ptr e 0] (some (Ug 227 s u)) A (fun pn A'=>pn=none∧A'=(A.upd a (some (.cells [i64 (s.length - u.length:Nat)]))).upd e (some (.cells [i64 80]))):=by
 refine IR CL (fE rfl) ?_
 simp only[GV,Xx,M3,Ug,Q1,seval]
 intro t ht
 have hta:=Q6 ha ht
 have hte:=Q6 he ht
 simp only[Xx,Q5 hta,Q5 hte,Q5 hae.symm,ha,he,Q1,seval]
 refine⟨_,XC fun k=> ?_,rfl⟩
 by_cases h1:k=e
 ·subst h1;exact .inl (by rw[Q0,Q0])
 by_cases h2:k=a
 ·subst h2;exact .inl (by rw[Q5 h1,Q5 h1,Q0,Q0])
 by_cases h3:k=t
 ·subst h3;exact .inr ⟨by rw[Q5 h1,Q5 h2];exact ht,by rw[Q5 h1,Q5 h2,Q0];simp⟩
 ·exact .inl (by rw[Q5 h1,Q5 h2,Q5 h1,Q5 h2,Q5 h3])
theorem vP {A:Q3}{a e:Nat}:K8 Tryz.prog G 215 [.ptr a 0,.ptr e 0] none A (fun pn A'=>pn=none∧A'=A):=by
 refine IR CL (fE rfl) ?_
 simp only[GV,Xx,M3,Q1,seval]
 exact⟨_,U2.refl _,rfl⟩
def WOut {α:Type}(r x:Nat)(s:Bs)(A:Q3)(enc:α→List AV):Res α→Out→Q3→Prop
 | .ok a u,o,A'=>o=.ret (.tuple [i64 0,i64 0])∧A'=(A.upd r (some (rk s u))).upd x (some (.cells (enc a)))
 | .bad u,o,A'=>o=.ret (.tuple [i64 (s.length - u.length:Nat),i64 80])∧A'=A.upd r none
theorem Be {α:Type}{A:Q3}{r x:Nat}{s u:Bs}{enc:α→List AV}{R:Res α}{fn:FuncId}{first cap:List AV}(hr:A r=some (rk s u)){cx:AObj}(hx:A x=some cx)(hxr:x≠r)
 (h1:∀A',QK r A A'→A' r=some (rk s u)→Qt Tryz.prog G fn (first++cap) A' (P2 r x s A' enc R)):Qt Tryz.prog G 167 [.func (.func fn) first cap] A (WOut r x s A enc R):=by
 refine Q4 l167 (fE rfl) ?_
 simp only[AB,Q1,seval]
 intro a ha e he
 obtain⟨hea,he0⟩:=Q9 he
 have hra:=Q6 hr ha
 have hre:=Q6 hr he0
 have hxa:=Q6 hx ha
 have hxe:=Q6 hx he0
 refine Qk (K:=P2 r x s _ enc R) (show Qt Tryz.prog G fn (first++[]++cap) _ _ by simpa using h1 _ (by repeat first|exact QK.refl _ _|refine QK.at ?_ _|refine QK.set ?_ (by assumption) (by simp)) (by rw[Q5 hre,Q5 hra,hr])) ?_
 intro o A' h
 cases R with
 |ok y u'=>
  obtain⟨rfl,rfl⟩:=h
  simp only[Q5 hra.symm,Q5 hre.symm,Q5 hxa.symm,Q5 hxe.symm,Q5 hea,Q5 hea.symm,Xx,Q1,seval]
  refine K8.mono (vP G) ?_
  rintro pn A' ⟨rfl,rfl⟩
  simp only[Q5 hra.symm,Q5 hre.symm,Q5 hxa.symm,Q5 hxe.symm,Q5 hea,Q5 hea.symm,Xx,Q1,seval]
  refine J0 (Wk.refl _) (XC fun k=> ?_) ⟨rfl,rfl⟩
  by_cases h1:k=e
  ·subst h1;exact .inr ⟨by rw[Q5 hxe.symm,Q5 hre.symm];exact he0,by simp⟩
  by_cases h2:k=a
  ·subst h2;exact .inr ⟨by rw[Q5 hxa.symm,Q5 hra.symm];exact ha,by simp [Q3.upd,h1]⟩
  refine .inl ?_
  simp only[Q3.upd,h1,h2,if_false]
 |bad u'=>
  obtain⟨rfl,rfl⟩:=h
  simp only[Xx,Q1,seval]
  refine K8.mono (c215 G (a:=a) (e:=e) (v:=i64 0) (w:=i64 0) ?_ ?_ hea.symm) ?_
  ·rw[Q5 hra.symm,Q5 hea.symm,Q0]
  ·rw[Q5 hre.symm,Q0]
  rintro pn A' ⟨rfl,rfl⟩
  simp only[Q5 hra.symm,Q5 hre.symm,Q5 hxa.symm,Q5 hxe.symm,Q5 hea,Q5 hea.symm,Xx,Q1,seval]
  refine J0 (Wk.refl _) (XC fun k=> ?_) ⟨rfl,rfl⟩
  by_cases h1:k=e
  ·subst h1;exact .inr ⟨by rw[Q5 hre.symm];exact he0,by simp⟩
  by_cases h2:k=a
  ·subst h2;exact .inr ⟨by rw[Q5 hra.symm];exact ha,by simp [Q3.upd,h1]⟩
  refine .inl ?_
  simp only[Q3.upd,h1,h2,if_false]
def Ud {α:Type}(s:Bs)(zero:AV)(enc:α→AV)(small:α→Bool):Res α→AV
 | .ok x u=>if small x then .tuple [enc x,i64 (s.length - u.length:Nat),i64 0]else .tuple [zero,i64 0,i64 3]
 | .bad u=>.tuple [zero,i64 (s.length - u.length:Nat),i64 80]
theorem Uy {a a' b c:AV}(h:Wk a a'):Wk (.tuple [a,b,c]) (.tuple [a',b,c]):=fun κ u hr=>by
 simp only[Qc]at hr⊢
 obtain⟨l,h1,h2⟩:=hr
 exact⟨l,h1,Xy.cons h (Y6 _) κ _ h2⟩
theorem Bc (hG:Gl G){f:Nat}{A:Q3}{s u:Bs}(hu:At s u)(hs:s.length≤20000)(hf:10*u.length+9≤f):
 Qu Tryz.prog G 254 [.str s,i64 (s.length - u.length:Nat)] A (Ud s (Zw JO) Zw Zm (Z0 f u)) A:=by
 have hle:=hu.le
 generalize hn:s.length - u.length=n
 have hd:skip (s.drop n)=u:=by rw[←hn,hu.drop];simp [skip,hu.nrm]
 have n0:¬((n:Int)<0):=by omega
 have n1:¬((s.length:Int)<n):=by omega
 have n2:¬((20000:Int)<s.length):=by omega
 refine Q4 l254 (fE rfl) ?_
 simp only[Bx,n0,n1,n2,Q1,seval]
 intro c hc
 refine Qk (Bf G (by omega) hs) ?_
 rintro o A1 ⟨r,hr,rfl,rfl⟩
 rw[hd]
 obtain⟨hrc,hr0⟩:=Q9 hr
 simp only[Q1,seval]
 intro p hp x hx
 obtain⟨hpr,hp⟩:=Q9 hp
 obtain⟨hpc,hp0⟩:=Q9 hp
 obtain⟨hxp,hx⟩:=Q9 hx
 obtain⟨hxr,hx⟩:=Q9 hx
 obtain⟨hxc,hx0⟩:=Q9 hx
 refine Qk (Be G (r:=r) (x:=x) (s:=s) (u:=u) (enc:=Exp.cells) (R:=Z0 f u) (cx:=.cells [i64 0,.str [],i64 0,.raw (.slice none 0 0)]) ?_ (by exact Q0 ..) hxr fun A' hov hr'=> ?_) ?_
 ·rw[Q5 hxr.symm,Q5 hpr.symm,Q0]
 ·exact c273 G hG (p:=p) (zs:=[i64 0,.str [],i64 0,.raw (.slice none 0 0)]) (hov.keep hpr (by rw[Q5 hxp.symm,Q0])) (hov.keep hxr (by exact Q0 ..)) rfl hr' hxr hu hs hf
 intro o A' h
 cases hR:Z0 f u with
 |bad u'=>
  rw[hR]at h
  obtain⟨rfl,rfl⟩:=h
  simp only[Q5 hrc.symm,Q5 hpc.symm,Q5 hxc.symm,Q1,seval]
  exact Uh (Uy (YA (Kp (k:=0) (n:=[]) (i:=0)).wk)) (by repeat(first|exact Z7.refl _|refine Z7.set ?_ (by assumption) (by simp [rk,JN,rd,Zz])))
 |ok y u'=>
  rw[hR]at h
  obtain⟨rfl,rfl⟩:=h
  simp only[Q5 hrc.symm,Q5 hpc.symm,Q5 hxc.symm,Q1,seval]
  have hsz:(Z8 y).nodes≤u.length:=by have:=On _ _ _ _ hu hR;simp only[YK]at this;omega
  refine Q2 (GR G y (by omega)) ?_
  simp only[Q1,seval]
  refine Q2 (GS G (Z8 y) _) ?_
  cases hsm:(Z8 y).small with
  |false=>
   simp only[Q5 hrc.symm,Q5 hpc.symm,Q5 hxc.symm,Q1,seval]
   have e:Ud s (Zw JO) Zw Zm (.ok y u')=.tuple [Zw JO,i64 0,i64 3]:=by simp only[Ud,Zm,hsm,cB,if_false]
   rw[e]
   exact Uh (Uy (YA (Kp (k:=0) (n:=[]) (i:=0)).wk)) (by repeat(first|exact Z7.refl _|refine Z7.set ?_ (by assumption) (by simp [rk,JN,rd,Zz])))
  |true=>
   simp only[Q5 hrc.symm,Q5 hpc.symm,Q5 hxc.symm,Q5 hrc,Q5 hpc,Q5 hxc,Q5 hxp.symm,Q5 hxr.symm,Q5 hpr,We,QW,Q1,seval]
   have e:Ud s (Zw JO) Zw Zm (.ok y u')=.tuple [Zw y,i64 (s.length - u'.length:Nat),i64 0]:=by simp only[Ud,Zm,hsm,if_true]
   rw[e]
   exact Uh (Wk.refl _) (by repeat(first|exact Z7.refl _|refine Z7.set ?_ (by assumption) (by simp [rk,JN,rd,Zz])))
theorem Mc:∀(l:List Stmt) (m:Siz),(Zy m l).nodes=m.nodes+Jd YE l
 |[],m=>rfl
 |x::l,m=>by
  have ih:=Mc l (m.bes (Jj x))
  simp only[Zy,List.foldl_cons]at ih⊢
  rw[ih,JJ];simp only[Siz.bes,YE];omega
def Z1 (f:Func):Bool:=JZ [f]
theorem SE:Xy [.str [],.raw (.slice none 0 0),.raw (.slice none 0 0)] (Func.cells ⟨[],[],[]⟩):=.cons (Wk.refl _) (.cons Jm (.cons Jm .nil))
theorem c84 (hG:Gl G){f:Nat}{A:Q3}{s u:Bs}(hu:At s u)(hs:s.length≤20000)(hf:10*u.length+11≤f):
 Qu Tryz.prog G 84 [.str s,i64 (s.length - u.length:Nat)] A (Ud s (Ux ⟨[],[],[]⟩) Ux Z1 (V4 f u)) A:=by
 have hle:=hu.le
 generalize hn:s.length - u.length=n
 have hd:skip (s.drop n)=u:=by rw[←hn,hu.drop];simp [skip,hu.nrm]
 have n0:¬((n:Int)<0):=by omega
 have n1:¬((s.length:Int)<n):=by omega
 have n2:¬((20000:Int)<s.length):=by omega
 refine Q4 l84 (fE rfl) ?_
 simp only[C84,n0,n1,n2,Q1,seval]
 intro c hc
 refine Qk (Bf G (by omega) hs) ?_
 rintro o A1 ⟨r,hr,rfl,rfl⟩
 rw[hd]
 obtain⟨hrc,hr0⟩:=Q9 hr
 simp only[Q1,seval]
 intro p hp x hx
 obtain⟨hpr,hp⟩:=Q9 hp
 obtain⟨hpc,hp0⟩:=Q9 hp
 obtain⟨hxp,hx⟩:=Q9 hx
 obtain⟨hxr,hx⟩:=Q9 hx
 obtain⟨hxc,hx0⟩:=Q9 hx
 refine Qk (Be G (r:=r) (x:=x) (s:=s) (u:=u) (enc:=Func.cells) (R:=V4 f u) (cx:=.cells [.str [],.raw (.slice none 0 0),.raw (.slice none 0 0)]) ?_ (by exact Q0 ..) hxr fun A' hov hr'=> ?_) ?_
 ·rw[Q5 hxr.symm,Q5 hpr.symm,Q0]
 ·exact c168 G hG (p:=p) (hov.keep hpr (by rw[Q5 hxp.symm,Q0])) (hov.keep hxr (by exact Q0 ..)) hr' hxr hu hs hf
 intro o A' h
 cases hR:V4 f u with
 |bad u'=>
  rw[hR]at h
  obtain⟨rfl,rfl⟩:=h
  simp only[Q5 hrc.symm,Q5 hpc.symm,Q5 hxc.symm,Q1,seval]
  exact Uh (Uy (YA SE)) (by repeat(first|exact Z7.refl _|refine Z7.set ?_ (by assumption) (by simp [rk,JN,rd,Zz])))
 |ok y u'=>
  rw[hR]at h
  obtain⟨rfl,rfl⟩:=h
  simp only[Q5 hrc.symm,Q5 hpc.symm,Q5 hxc.symm,Q1,seval]
  have hw:=Sd _ _ _ _ hu hR
  have hbl:=IJ FX y.body
  simp only[Hx]at hw
  have hsum:(J8 ⟨0,0,false⟩ [y]).nodes=Jd YE y.body:=by
   show(Zy ⟨0,0,false⟩ y.body).nodes=_
   rw[Mc];simp
  simp only[Func.cells_len,Func.cells_take,Q1,seval]
  refine QY (cs:=y.cells) (Jf _ _ (by rw[Xj,Func.cells_len]) (by decide)) fun t ht=> ?_
  obtain⟨htx,ht⟩:=Q9 ht
  obtain⟨htr,ht⟩:=Q9 ht
  obtain⟨_,ht⟩:=Q9 ht
  obtain⟨htp,ht⟩:=Q9 ht
  obtain⟨_,ht⟩:=Q9 ht
  obtain⟨htc,ht0⟩:=Q9 ht
  simp only[Q1,seval]
  refine Qk (Qt.wk (.cons (T0 (by simpa using Y6 _)) .nil) (Bg G [y] (by omega) (by simp) (fun f hf=>by simp at hf;subst hf;omega) (fun f hf=>by simp at hf;subst hf;omega))) ?_
  rintro o A' ⟨rfl,rfl⟩
  cases hsm:JZ [y]with
  |false=>
   simp only[Q5 hrc.symm,Q5 hpc.symm,Q5 hxc.symm,Q5 htc.symm,Q1,seval]
   have e:Ud s (Ux ⟨[],[],[]⟩) Ux Z1 (.ok y u')=.tuple [Ux ⟨[],[],[]⟩,i64 0,i64 3]:=by simp only[Ud,Z1,hsm,cB,if_false]
   rw[e]
   exact Uh (Uy (YA SE)) (by repeat(first|exact Z7.refl _|refine Z7.set ?_ (by assumption) (by simp [rk,JN,rd,Zz])))
  |true=>
   simp only[Q5 hrc.symm,Q5 hpc.symm,Q5 hxc.symm,Q5 htc.symm,Q5 htx.symm,Q5 htp.symm,Q5 htr.symm,Q5 hrc,Q5 hpc,Q5 hxc,Q5 hxp.symm,Q5 hxr.symm,Q5 hpr,We,Func.cells_len,Func.cells_one,Func.cells_take,QW,Q1,seval]
   have e:Ud s (Ux ⟨[],[],[]⟩) Ux Z1 (.ok y u')=.tuple [Ux y,i64 (s.length - u'.length:Nat),i64 0]:=by simp only[Ud,Z1,hsm,if_true]
   rw[e]
   exact Uh (Wk.refl _) (by repeat(first|exact Z7.refl _|refine Z7.set ?_ (by assumption) (by simp [rk,JN,rd,Zz])))
end
def Res.void {α:Type}(R:Res α):Res Unit:=R.bind fun _ u=>.ok () u
theorem V8 {α:Type}{a:α}{u:Bs}:(Res.ok a u).void=.ok () u:=rfl
theorem kF {α:Type}{u:Bs}:(Res.bad u:Res α).void=.bad u:=rfl
theorem JV {α β:Type}{R:Res α}{k:α→Bs→Res β}:(R.bind k).void=R.bind fun a u=>(k a u).void:=by cases R <;> rfl
theorem Uz {α:Type}{c:Prop}[Decidable c]{a b:Res α}:(if c then a else b).void=if c then a.void else b.void:=by split <;> rfl
section
variable {P:Program}{G:Nat→Option (List AV)}{α β:Type}{f:FuncId}{first args cap:List AV}{A A0:Q3}{r:Nat}{s:Bs}{lo lo0:Bool}{big:α→Bool}{big0:β→Bool}{enc:α→AV}{enc0:β→AV}{res:List LRes}
 {d:Option Nat}{l:List LInstr}{st:List Fr}{env:Qo}
theorem QH {R:Res α}{k:α→Bs→Res β}(h:Qt P G f (first++args++cap) A (Jo r s A lo big enc R))(hw:QK r A0 A)
 (hok:∀a u,R=.ok a u→(Cx.of P G false res (Jo r s A0 lo0 big0 enc0 (k a u))).ops l st (putD env d (enc a)) [] (A.upd r (some (rd s u (lo||big a))))):
 (Cx.of P G false res (Jo r s A0 lo0 big0 enc0 (R.bind k))).call (.func (.func f) first cap) args d l st env [] A:=YM h hw.wk0 hok
theorem Yb {R:Res α}{k:Bs→Res β}(h:Qt P G f (first++args++cap) A (Jo r s A lo Zs (fun _=>ZK) R.void))(hw:QK r A0 A)
 (hok:∀a u,R=.ok a u→(Cx.of P G false res (Jo r s A0 lo0 big0 enc0 (k u))).ops l st (putD env d ZK) [] (A.upd r (some (rd s u lo)))):
 (Cx.of P G false res (Jo r s A0 lo0 big0 enc0 (R.bind fun _ u=>k u))).call (.func (.func f) first cap) args d l st env [] A:=by
 have e:(R.bind fun _ u=>k u)=R.void.bind fun _ u=>k u:=by cases R <;> rfl
 rw[e]
 refine YM h hw.wk0 fun a u hR=> ?_
 rw[Qp]
 cases R with
 |ok b u'=>cases hR;exact hok _ _ rfl
 |bad u'=>cases hR
theorem ML {u:Bs}(h:Qt P G f (first++args++cap) A (Jo r s A lo big enc (.bad u:Res α)))(hw:QK r A0 A):
 (Cx.of P G false res (Jo r s A0 lo0 big0 enc0 (.bad u))).call (.func (.func f) first cap) args d l st env [] A:=
 QH (R:=.bad u) (k:=fun(_:α) _=>.bad u) h hw fun _ _ h=>by cases h
theorem VI {v:AV}{a:β}{u:Bs}(h:Wk v (enc0 a))(hA:QK r A0 A)(hr:A r=some (rd s u (lo0||big0 a))):Vl (some v) (Jo r s A0 lo0 big0 enc0 (.ok a u)) A:=
 J0 h (hA.wk hr (by intros;simp [rd,Zz])) ⟨rfl,rfl⟩
theorem VH {u:Bs}(hA:QK r A0 A)(hr:A r=some (rd s u lo0)):Vl (some ZK) (Jo r s A0 lo0 Zs (fun _=>ZK) (.ok () u)) A:=
 VI (Wk.refl _) hA (by rw[Qp];exact hr)
end
theorem W0 {k:IntKind}{a b:Int}:Qf .lss .num (.raw (.int k a)) (.raw (.int k b))=some (.raw (.bool (decide (a<b)))):=by simp only[Qf,if_true,Zb,cO]
theorem Ke (s u:Bs)(lo:Bool):rd s u lo=.cells [.str s,i64 (s.length - u.length:Nat),i64 (s.length - u.length+Z4 u:Nat),bo lo]:=rfl
section
variable (G:Nat→Option (List AV))
abbrev VC (r:Nat)(s:Bs)(A:Q3)(lo:Bool)(R:Res Unit):=Jo r s A lo Zs (fun _=>ZK) R
theorem CE {A:Q3}{r p:Nat}{s u:Bs}{lo:Bool}(hp:A p=some (.cells [.ptr r 0]))(hr:A r=some (rd s u lo))(hu:At s u):Qu Tryz.prog G 283 [.ptr p 0] A (bo (JP u)) A:=by
 have hle:=hu.le
 rw[Ke]at hr
 refine Q4 l283 (fE rfl) ?_
 cases u with
 |nil=>
  have h1:decide (((s.length - 0:Nat):Int)<s.length)=false:=by simp
  simp only[GW,W0,hp,hr,h1,QW,Q1,seval]
  exact Qx rfl (U2.refl _)
 |cons c t=>
  have h1:(((s.length - (t.length+1):Nat):Int)<s.length):=by simp at hle⊢;omega
  simp only[cE]at hr
  have hcc:s[s.length - (t.length+1)]? =some c:=by
   have:=hu.drop
   rw[cE]at this
   have h2:=congrArg (fun l=>l[0]?) this
   simpa using h2
  simp only[GW,W0,fA h1,hp,hr,hcc,Q1,seval]
  refine Q2 (Sa G c _) ?_
  simp only[QW,hp,hr,hcc,Q1,seval]
  exact Qx rfl (U2.refl _)
structure PC (f:Nat):Prop where
 e:∀{A:Q3} {r:Nat} {s u:Bs} {lo:Bool},A r=some (rd s u lo)→At s u→s.length≤20000→10*u.length+9≤f→Qt Tryz.prog G 220 [.ptr r 0] A (VC r s A lo (Z0 f u).void)
 r:∀{A:Q3} {r:Nat} {s u:Bs} {lo:Bool} {n:Nat},A r=some (rd s u lo)→At s u→s.length≤20000→n≤5→10*u.length+8≤f+n→Qt Tryz.prog G 250 [.ptr r 0,i64 n] A (VC r s A lo (JA f (n+1) u).void)
 u:∀{A:Q3} {r:Nat} {s u:Bs} {lo:Bool},A r=some (rd s u lo)→At s u→s.length≤20000→10*u.length+2≤f→Qt Tryz.prog G 271 [.ptr r 0] A (VC r s A lo (Zv f u).void)
theorem G0 {f:Nat}(ih:PC G f){A:Q3}{r:Nat}{s u:Bs}{lo:Bool}(hr:A r=some (rd s u lo))(hu:At s u)(hs:s.length≤20000)(hf:10*u.length+9≤f+1):Qt Tryz.prog G 220 [.ptr r 0] A (VC r s A lo (Z0 (f+1) u).void):=by
 refine Q4 l220 (fE rfl) ?_
 simp only[BV,Q1,seval]
 simp only[Z0,JV,Uz,V8]
 refine Yb (ih.r (n:=0) hr hu hs (by decide) (by omega)) (by repeat first|exact QK.refl _ _|refine QK.at ?_ _|refine QK.set ?_ (by assumption) (by simp)) fun x u1 h1=> ?_
 have b1:=(Hk f).r _ _ _ _ _ hu h1
 simp only[Q1,seval]
 refine Q2 (YV G (by exact Q0 ..) b1.at' hs) ?_
 by_cases hc:cur u1=[63]
 ·have b2:=Beh.adv b1.at' hc (by decide)
  have:=b1.lt
  have:=b2.lt
  simp only[fA hc,fC hc,Q1,seval]
  refine Yb (ih.e (by exact Q0 ..) b2.at' hs (by omega)) (by repeat first|exact QK.refl _ _|refine QK.at ?_ _|refine QK.set ?_ (by assumption) (by simp)) fun y u2 h2=> ?_
  have b3:=JS _ _ _ _ b2.at' h2
  simp only[Q1,seval]
  refine QH (YQ G (by exact Q0 ..) b3.at' (by omega)) (by repeat first|exact QK.refl _ _|refine QK.at ?_ _|refine QK.set ?_ (by assumption) (by simp)) fun _ u3 h3=> ?_
  have b4:=Qn (by decide) _ _ _ _ b3.at' h3
  have:=b3.lt
  have:=b4.lt
  simp only[Qp,Q1,seval]
  refine Yb (ih.e (by exact Q0 ..) b4.at' hs (by omega)) (by repeat first|exact QK.refl _ _|refine QK.at ?_ _|refine QK.set ?_ (by assumption) (by simp)) fun z u4 h4=> ?_
  simp only[Q1,seval]
  exact VH (by repeat first|exact QK.refl _ _|refine QK.at ?_ _|refine QK.set ?_ (by assumption) (by simp)) (by exact Q0 ..)
 ·simp only[fB hc,fD hc,Q1,seval]
  exact VH (by repeat first|exact QK.refl _ _|refine QK.at ?_ _|refine QK.set ?_ (by assumption) (by simp)) (by exact Q0 ..)
theorem Mn (n:Nat)(t:Bs):t∈(ZH n).map Prod.fst↔∃k,JE n t=some k:=by
 unfold JE
 generalize ZH n=l
 induction l with
 |nil=>simp
 |cons p l ih=>
  obtain⟨a,b⟩:=p
  simp only[cJ,dT,List.lookup_cons,ih]
  cases h:t==a with
  |true=>simp [beq_iff_eq.1 h]
  |false=>
   have:¬t=a:=by simpa using h
   simp [this]
theorem Mb:∀(f n:Nat) (x y:Exp) (u:Bs),(ZU f n x u).void=(ZU f n y u).void:=by
 intro f
 induction f with
 |zero=>intro n x y u;rfl
 |succ f ih=>
  intro n x y u
  simp only[ZU]
  split
  ·rfl
  ·rename_i k hk
   simp only[JV,Uz,V8]
   congr 1
   funext a u
   split
   ·rfl
   ·exact ih _ _ _ _
theorem Rq {f:Nat}(ih:∀f'≤f,PC G f'){A:Q3}{r:Nat}{s u:Bs}{lo:Bool}{n:Nat}(hr:A r=some (rd s u lo))(hu:At s u)(hs:s.length≤20000)(hn5:n≤5)(hf:10*u.length+8≤f+1+n):Qt Tryz.prog G 250 [.ptr r 0,i64 n] A (VC r s A lo (JA (f+1) (n+1) u).void):=by
 refine Q4 l250 (fE rfl) ?_
 have hw:IntKind.i64.wrap ((n:Int)+1)=((n+1:Nat):Int):=by rw[Qg (by omega) (by omega)];rfl
 simp only[BB,Q1,seval]
 refine QY (cs:=[.str [124,124]]) (by kernel_rfl) fun t1 ht1=> ?_
 simp only[Q1,seval]
 refine QY (cs:=[.str [38,38]]) (by kernel_rfl) fun t2 ht2=> ?_
 simp only[Q1,seval]
 refine QY (cs:=[.str [60],.str [60,61],.str [61,61],.str [33,61],.str [62,61],.str [62]]) (by kernel_rfl) fun t3 ht3=> ?_
 simp only[Q1,seval]
 refine QY (cs:=[.str [43],.str [45]]) (by kernel_rfl) fun t4 ht4=> ?_
 simp only[Q1,seval]
 refine QY (cs:=[.str [42],.str [47],.str [37]]) (by kernel_rfl) fun t5 ht5=> ?_
 obtain⟨_,ht2⟩:=Q9 ht2
 obtain⟨_,ht3⟩:=Q9 ht3
 obtain⟨_,ht3⟩:=Q9 ht3
 obtain⟨_,ht4⟩:=Q9 ht4
 obtain⟨_,ht4⟩:=Q9 ht4
 obtain⟨_,ht4⟩:=Q9 ht4
 obtain⟨_,ht5⟩:=Q9 ht5
 obtain⟨_,ht5⟩:=Q9 ht5
 obtain⟨_,ht5⟩:=Q9 ht5
 obtain⟨_,ht5⟩:=Q9 ht5
 simp only[Q1,seval]
 intro c hc
 obtain⟨_,hc⟩:=Q9 hc
 obtain⟨_,hc⟩:=Q9 hc
 obtain⟨_,hc⟩:=Q9 hc
 obtain⟨_,hc⟩:=Q9 hc
 obtain⟨_,hc⟩:=Q9 hc
 have hcr:=Q6 hr hc
 have hOB:QK r A ((((((A.upd t1 (some .tip)).upd t2 (some .tip)).upd t3 (some .tip)).upd t4 (some .tip)).upd t5 (some .tip)).upd c (some (.cells [.slice 1 1 [.str [124,124]] (some t1),.slice 1 1 [.str [38,38]] (some t2),.slice 1 6 [.str [60],.str [60,61],.str [61,61],.str [33,61],.str [62,61],.str [62]] (some t3),.slice 1 2 [.str [43],.str [45]] (some t4),.slice 1 3 [.str [42],.str [47],.str [37]] (some t5)]))):=(by repeat first|exact QK.refl _ _|refine QK.at ?_ _|refine QK.set ?_ (by assumption) (by simp))
 have hrB:=hOB
 have e1:=Q6 hr ht1
 have e2:=Q6 hr ht2
 have e3:=Q6 hr ht3
 have e4:=Q6 hr ht4
 have e5:=Q6 hr ht5
 have hBr:((((((A.upd t1 (some .tip)).upd t2 (some .tip)).upd t3 (some .tip)).upd t4 (some .tip)).upd t5 (some .tip)).upd c (some (.cells [.slice 1 1 [.str [124,124]] (some t1),.slice 1 1 [.str [38,38]] (some t2),.slice 1 6 [.str [60],.str [60,61],.str [61,61],.str [33,61],.str [62,61],.str [62]] (some t3),.slice 1 2 [.str [43],.str [45]] (some t4),.slice 1 3 [.str [42],.str [47],.str [37]] (some t5)]))) r=some (rd s u lo):=by
  rw[Q5 hcr,Q5 e5,Q5 e4,Q5 e3,Q5 e2,Q5 e1,hr]
 obtain⟨L,hL,hLn⟩:∃L:List AV,L=[.slice 1 1 [.str [124,124]] (some t1),.slice 1 1 [.str [38,38]] (some t2),.slice 1 6 [.str [60],.str [60,61],.str [61,61],.str [33,61],.str [62,61],.str [62]] (some t3),.slice 1 2 [.str [43],.str [45]] (some t4),.slice 1 3 [.str [42],.str [47],.str [37]] (some t5)]∧
  ∀n<5,∃v,L[n]? =some v∧Wk v (LD ((ZH (n+1)).map Prod.fst)):=by
  refine⟨_,rfl,fun n hn=> ?_⟩
  have:n=0∨n=1∨n=2∨n=3∨n=4:=by omega
  rcases this with rfl|rfl|rfl|rfl|rfl <;> exact⟨_,rfl,Ym⟩
 rw[←hL]at hOB hBr⊢
 have hBc:∀B:Q3,(B.upd c (some (.cells L))) c=some (.cells L):=fun B=>Q0 ..
 generalize hB:(((((A.upd t1 (some .tip)).upd t2 (some .tip)).upd t3 (some .tip)).upd t4 (some .tip)).upd t5 (some .tip)).upd c (some (.cells L))=B at*
 have hBc':B c=some (.cells L):=by rw[←hB];exact Q0 ..
 refine⟨fun h5=> ?_,fun h5=> ?_⟩
 ·simp only[JA]
  rw[fC (by omega)]
  have e:∀R:Res Unit,R=R.bind fun _ u=>.ok () u:=fun R=>by cases R <;> rfl
  have e2:(Zv f u).void=(Zv f u).bind fun _ u=>.ok () u:=rfl
  rw[e2]
  refine Yb ((ih f (fG _)).u hBr hu hs (by omega)) hOB fun x u1 h1=> ?_
  simp only[QQ,Q1,seval]
  exact VH (hOB.at _) (by exact Q0 ..)
 ·simp only[JA,Uz,JV]
  rw[fD (by omega),hw]
  have hvoid:((JA f (n+1+1) u).bind fun a u=>(ZU f (n+1) a u).void)=(JA f (n+1+1) u).bind fun _ u=>(ZU f (n+1) JO u).void:=by
   congr 1
   funext a u
   exact Mb _ _ _ _ _
  rw[hvoid]
  refine Yb ((ih f (fG _)).r hBr hu hs (by omega) (by omega)) hOB fun x u1 h1=> ?_
  have b1:=(Hk f).r _ _ _ _ _ hu h1
  have:=b1.lt
  simp only[Q1,seval]
  refine Qv (fun k env ds A'=>∃(x':Exp) (u':Bs) (f':Nat),k=u'.length∧env 0=.ptr r 0∧env 1=i64 n∧env 4=.ptr c 0∧ds=[]∧At s u'∧u'.length<u.length∧A' r=some (rd s u' lo)∧
   A' c=some (.cells L)∧QK r A A'∧f'≤f∧10*u'.length+1≤f'∧(ZU f (n+1) JO u1).void=(ZU f' (n+1) x' u').void) u1.length
   ⟨JO,u1,f,rfl,rfl,rfl,rfl,rfl,b1.at',b1.lt,(by exact Q0 ..),by rw[Q5 hcr.symm,hBc'],hOB.at _,fG _,by omega,rfl⟩ ?_
  rintro k env ds A' ⟨x',u',f',rfl,e0,e1',e4',rfl,hu',hlt,hr',hc',hov',hff,hfu,hR⟩
  obtain⟨f',rfl⟩:∃g,f'=g+1:=⟨f' - 1,by omega⟩
  obtain⟨v,hv1,hv2⟩:=hLn n (by omega)
  have hn5':((n:Int)<5):=by omega
  simp only[e0,e1',e4',hc',Nat.mul_one,hv1,Q1,seval]
  refine⟨by omega,Q2 (KN G hr' hu') ?_⟩
  simp only[e0,e1',e4',hc',hv1,QW,Q1,seval]
  refine Qk (Qt.wk (.cons hv2 (.cons (Wk.refl _) .nil)) (f79 G ((ZH (n+1)).map Prod.fst) (cur u') A' (by
   have:n=0∨n=1∨n=2∨n=3∨n=4:=by omega
   rcases this with rfl|rfl|rfl|rfl|rfl <;> decide))) ?_
  rintro o A1 ⟨rfl,rfl⟩
  rw[hR]
  cases ho:JE (n+1) (cur u')with
  |none=>
   have hm:¬cur u'∈(ZH (n+1)).map Prod.fst:=fun h=>by obtain⟨k,hk⟩:=(Mn _ _).1 h;rw[ho]at hk;cases hk
   simp only[fB hm,ZU,ho]
   simp only[e0,e1',e4',V8,QQ,Q1,seval]
   exact VH hov' hr'
  |some k=>
   have hm:cur u'∈(ZH (n+1)).map Prod.fst:=(Mn _ _).2 ⟨k,ho⟩
   have b2:=Beh.adv hu' rfl (KX ho)
   have:=b2.lt
   simp only[fA hm,ZU,ho,JV,Uz,V8]
   simp only[e0,e1',e4',Q1,seval]
   refine Q2 (W6 G hr' hu' (by omega)) ?_
   simp only[e0,e1',e4',Q1,seval]
   rw[hw]
   have hk2:((JA f' (n+1+1) (adv u')).bind fun a u_1=>if n=2 then Res.ok () u_1 else(ZU f' (n+1) (Exp.mk k [] 0 [x',a]) u_1).void)=(JA f' (n+1+1) (adv u')).bind fun _ u_1=>if n=2 then Res.ok () u_1 else(ZU f' (n+1) JO u_1).void:=by
    congr 1
    funext a u
    split
    ·rfl
    ·exact Mb _ _ _ _ _
   rw[hk2]
   refine Yb ((ih f' (by omega)).r (by exact Q0 ..) b2.at' hs (by omega) (by omega)) (hov'.at _) fun y u2 h2=> ?_
   have b3:=(Hk f').r _ _ _ _ _ b2.at' h2
   have:=b3.lt
   simp only[e0,e1',e4',Q1,seval]
   refine⟨fun h3=> ?_,fun h3=> ?_⟩
   ·rw[fC (by omega)]
    exact VH (hov'.at _) (by exact Q0 ..)
   ·refine⟨u2.length,by omega,JO,u2,f',rfl,b3.at',by omega,rfl,?_,hov'.at _,by omega,by omega,?_⟩
    ·rw[Q5 hcr.symm,hc']
    ·simp only[h2,Q7]
     rw[fD (by omega)]
theorem TN {α:Type}{sep:Bs}{one:Bs→Res α}:∀(f:Nat) (l:List α) (m:List Unit) (u:Bs),(J9 sep one f l u).void=(J9 sep (fun u=>(one u).void) f m u).void
 |0,_,_,_=>rfl
 |f+1,l,m,u=>by
  simp only[J9,Uz,JV,V8]
  split
  ·cases one (adv u)with
   |ok a u1=>exact TN f _ _ _
   |bad u1=>rfl
  ·rfl
theorem Gp {α:Type}{sep:Bs}{one:Bs→Res α}{f:Nat}{u:Bs}:(ZV sep one f u).void=(ZV sep (fun u=>(one u).void) f u).void:=by
 simp only[ZV,JV]
 cases one u with
 |ok a u1=>exact TN f _ _ _
 |bad u1=>rfl
theorem Sh {α:Type}{p:Bs→Res α}(h:Tk p):Tk fun u=>(p u).void:=fun s u a u' hu e=>by
 cases hp:p u with
 |ok b u1=>simp only[hp]at e;cases e;exact h s u b _ hu hp
 |bad u1=>simp only[hp]at e;cases e
theorem US {α:Type}:∀(l:List α),l.any Zs=false
 |[]=>rfl
 |a::l=>by simp [Zs]
theorem n285 {f:Nat}(ih:PC G f){A:Q3}{r p:Nat}{s u:Bs}{lo:Bool}(hp:A p=some (.cells [.ptr r 0]))(hr:A r=some (rd s u lo))(hu:At s u)(hs:s.length≤20000)(hf:10*u.length+9≤f):
 Qt Tryz.prog G 285 [.ptr p 0] A (Jo r s A lo Zs (fun _=>bo true) (Z0 f u).void):=by
 refine Q4 l285 (fE rfl) ?_
 simp only[Bn,hp,Q1,seval]
 refine Yb (ih.e hr hu hs hf) (by repeat first|exact QK.refl _ _|refine QK.at ?_ _|refine QK.set ?_ (by assumption) (by simp)) fun y u2 h2=> ?_
 simp only[Q1,seval]
 exact VI (Wk.refl _) (by repeat first|exact QK.refl _ _|refine QK.at ?_ _|refine QK.set ?_ (by assumption) (by simp)) (by rw[Qp];exact Q0 ..)
theorem RF (hG:Gl G){f:Nat}(ih:∀f'≤f,PC G f'){A:Q3}{r:Nat}{s u:Bs}{lo:Bool}(hr:A r=some (rd s u lo))(hu:At s u)(hs:s.length≤20000)(hf:10*u.length+2≤f+1):Qt Tryz.prog G 271 [.ptr r 0] A (VC r s A lo (Zv (f+1) u).void):=by
 refine Q4 l271 (fE rfl) ?_
 simp only[Br,Q1,seval]
 intro p hp
 have hpr:=Q6 hr hp
 refine Qv (fun k env ds A'=>∃(u':Bs) (f':Nat),k=u'.length∧env 1=.ptr p 0∧ds=[]∧At s u'∧u'.length≤u.length∧A' r=some (rd s u' lo)∧
  A' p=some (.cells [.ptr r 0])∧QK r A A'∧f'≤f+1∧10*u'.length+2≤f'∧(Zv (f+1) u).void=(Zv f' u').void) u.length
  ⟨u,f+1,rfl,rfl,rfl,hu,fG _,by rw[Q5 hpr,hr],(by exact Q0 ..),(by repeat first|exact QK.refl _ _|refine QK.at ?_ _|refine QK.set ?_ (by assumption) (by simp)),fG _,hf,rfl⟩ ?_
 rintro k env ds A' ⟨u',f',rfl,e1,rfl,hu',hle,hr',hp',hov,hff,hfu,hR⟩
 obtain⟨f',rfl⟩:∃g,f'=g+1:=⟨f' - 1,by omega⟩
 obtain⟨f',rfl⟩:∃g,f'=g+1:=⟨f' - 1,by omega⟩
 rw[hR]
 simp only[e1,hp',Q1,seval]
 refine Q2 (YV G hr' hu' hs) ?_
 by_cases hb:cur u'=[33]
 ·have b1:=Beh.adv hu' hb (by decide)
  have:=b1.lt
  simp only[fA hb,fC hb,e1,Q1,seval]
  refine⟨(adv u').length,by omega,adv u',f'+1,rfl,b1.at',by omega,rfl,by rw[Q5 hpr.symm,hp'],hov.at _,by omega,by omega,?_⟩
  simp only[Zv]
  rw[fC hb]
  simp only[JV,V8];rfl
 have hR2:(Zv (f'+1+1) u').void=if cur u'=YI then(if JP (adv u')then(JW true (adv u')).void else(Zv (f'+1) (adv u')).void)else(JX (f'+1) u').void:=by
  have key:∀g,(Zv (g+1) u').void=if cur u'=YI then(if JP (adv u')then(JW true (adv u')).void else(Zv g (adv u')).void)else(JX g u').void:=fun g=>by
   simp only[Zv]
   rw[fD hb]
   simp only[Uz,JV,V8];rfl
  exact key _
 rw[hR2]
 have hr1:(A'.upd r (some (rd s u' lo))) r=some (rd s u' lo):=Q0 ..
 have hp1:(A'.upd r (some (rd s u' lo))) p=some (.cells [.ptr r 0]):=by rw[Q5 hpr.symm,hp']
 have hov1:QK r A (A'.upd r (some (rd s u' lo))):=hov.at _
 simp only[fB hb,fD hb,e1,Q1,seval]
 generalize A'.upd r (some (rd s u' lo))=B at*
 refine Q2 (CE G hp1 hr1 hu') ?_
 cases hn:JP u' with
 |true=>
  have hm:¬cur u'=YI:=fun h=>by
   have:=IZ hn
   rw[h]at this;revert this;decide
  rw[fD hm]
  have hP:(JX (f'+1) u').void=(JK u').bind fun _ u=>.ok () u:=by
   simp only[JX,JK,hn,if_true,JV,V8]
   rw[fD hm]
  rw[hP]
  simp only[e1,hp1,Q1,seval]
  refine QH (W9 G hG hr1 hu' hs) hov1 fun _ u1 h1=> ?_
  simp only[QQ,Qp,Q1,seval]
  exact VH (hov1.at _) (by exact Q0 ..)
 |false=>
  simp only[e1,hp1,Q1,seval]
  refine Q2 (KN G hr1 hu') ?_
  simp only[e1,hp1,Q1,seval]
  refine⟨fun hm=> ?_,fun hm=> ?_⟩
  ·have b1:=Beh.adv hu' hm (by decide)
   have:=b1.lt
   rw[fC (show cur u'=YI from hm)]
   have hrc:B r=some (.cells [.str s,i64 (s.length - u'.length:Nat),i64 (s.length - u'.length+Z4 u':Nat),bo lo]):=by rw[hr1,Ke]
   simp only[e1,hp1,hrc,Q1,seval]
   intro m hm'
   have hmr:=Q6 hr1 hm'
   have hmp:=Q6 hp1 hm'
   have hm0:=hov1.gone (Ne.symm hmr) hm'
   simp only[Q5 hmp,hp1,Q1,seval]
   refine Q2 (W6 G (s:=s) (u:=u') (lo:=lo) (by rw[Q5 hmr,hr1]) hu' (by omega)) ?_
   simp only[e1,Q5 hmp,Q5 hpr.symm,hp1,Q1,seval]
   have hov2:∀X Y,QK r A ((B.upd m (some (.cells X))).upd r Y):=fun X Y=>QK.at (QK.set hov1 hm0 (by simp)) _
   refine Q2 (CE G (r:=r) (s:=s) (u:=adv u') (lo:=lo) (by rw[Q5 hpr.symm,Q5 hmp,hp1]) (by exact Q0 ..) b1.at') ?_
   cases hna:JP (adv u')with
   |true=>
    simp only[e1,Q5 hmp,Q5 hpr.symm,Q5 hmr.symm,hp1,Ke,Q1,seval]
    have hP:(JW true (adv u')).void=(JK u').bind fun _ u=>.ok () u:=by
     simp only[JK]
     rw[fC (show cur u'=YI from hm)];rfl
    rw[hP]
    refine QH (W9 G hG (s:=s) (u:=u') (lo:=lo) (by exact Q0 ..) hu' hs) (hov2 _ _) fun _ u1 h1=> ?_
    simp only[QQ,Qp,Q1,seval]
    exact VH (hov2 _ _) (by exact Q0 ..)
   |false=>
    simp only[e1,Q5 hmp,Q5 hpr.symm,hp1,Q1,seval]
    have e2:(Zv (f'+1) (adv u')).void=(Zv (f'+1) (adv u')).bind fun _ u=>.ok () u:=rfl
    rw[e2]
    refine Yb ((ih (f'+1) (by omega)).u (by exact Q0 ..) b1.at' hs (by omega)) (hov2 _ _) fun _ u1 h1=> ?_
    simp only[QQ,Q1,seval]
    exact VH (hov2 _ _) (by exact Q0 ..)
  ·rw[fD (show¬cur u'=YI from hm)]
   have hP:(JX (f'+1) u').void=if cur u'=[40]then(Z0 f' (adv u')).bind fun _ u1=>(Ql [41] u1).bind fun _ u2=>.ok () u2
    else(Za u').bind fun s u1=>if cur u1=[40]then(Uf (fun u=>Z0 f' u) f' (adv u1)).bind fun _ u2=>.ok () u2 else .ok () u1:=by
    simp only[JX,hn,cB,if_false,Uz,JV,V8]
   rw[hP]
   refine Q2 (YV G hr1 hu' hs) ?_
   by_cases hq:cur u'=[40]
   ·have b1:=Beh.adv hu' hq (by decide)
    have:=b1.lt
    simp only[fA hq,fC hq,e1,Q5 hpr.symm,hp1,Q1,seval]
    refine Yb ((ih f' (by omega)).e (by exact Q0 ..) b1.at' hs (by omega)) (hov1.at _) fun _ u1 h1=> ?_
    have b2:=JS _ _ _ _ b1.at' h1
    simp only[e1,Q5 hpr.symm,hp1,Q1,seval]
    refine QH (YQ G (by exact Q0 ..) b2.at' (by omega)) (hov1.at _) fun _ u2 h2=> ?_
    simp only[QQ,Qp,Q1,seval]
    exact VH (hov1.at _) (by exact Q0 ..)
   ·simp only[fB hq,fD hq,e1,Q5 hpr.symm,hp1,Q1,seval]
    refine QH (WR G (by exact Q0 ..) hu' (by omega)) (hov1.at _) fun nm u1 h1=> ?_
    have b1:=QM _ _ _ _ hu' h1
    have:=b1.lt
    simp only[e1,Q5 hpr.symm,hp1,Qp,Q1,seval]
    refine Q2 (YV G (by exact Q0 ..) b1.at' hs) ?_
    by_cases hq2:cur u1=[40]
    ·have b2:=Beh.adv b1.at' hq2 (by decide)
     have:=b2.lt
     simp only[fA hq2,fC hq2,e1,Q5 hpr.symm,hp1,Uf,Q1,seval]
     refine Q2 (YV G (by exact Q0 ..) b2.at' hs) ?_
     by_cases hq3:cur (adv u1)=[41]
     ·simp only[fA hq3,fC hq3,Q7,QQ,Q1,seval]
      exact VH (hov1.at _) (by exact Q0 ..)
     ·simp only[fB hq3,fD hq3,e1,Q5 hpr.symm,hp1,Zk,Q7,Q1,seval]
      have hL:((ZV [44] (fun u=>Z0 f' u) f' (adv u1)).bind fun _ u1=>(Ql [41] u1).bind fun _ u2=>Res.ok () u2)=(ZV [44] (fun u=>(Z0 f' u).void) f' (adv u1)).bind fun _ u1=>(Ql [41] u1).bind fun _ u2=>Res.ok () u2:=by
       have:=Gp (sep:=[44]) (one:=fun u=>Z0 f' u) (f:=f') (u:=adv u1)
       revert this
       cases ZV [44] (fun u=>Z0 f' u) f' (adv u1) <;> cases ZV [44] (fun u=>(Z0 f' u).void) f' (adv u1) <;> intro h <;> simp only[Res.void,Q7,OY]at h⊢ <;> cases h <;> rfl
      rw[hL]
      refine QH (n284 G (one:=fun u=>(Z0 f' u).void) (big:=Zs) (enc:=fun _=>bo true) (fn:=285) (first:=[]) (cap:=[.ptr p 0]) (by exact Q0 ..) b2.at' hs (by decide) (by omega) (fun A'' u'' lo'' hov'' hr'' hu'' hl''=>n285 G (ih f' (by omega)) (hov''.keep hpr.symm (by rw[Q5 hpr.symm,hp1])) hr'' hu'' hs (by omega)) (Sh JS) (fun _=>rfl) (fun _=>rfl)) (hov1.at _) fun l u2 h2=> ?_
      have b3:=VU (by decide) (Sh JS) _ _ _ _ b2.at' h2
      simp only[e1,Q5 hpr.symm,hp1,US,cT,Q1,seval]
      refine QH (YQ G (by exact Q0 ..) b3.at' (by omega)) (hov1.at _) fun _ u3 h3=> ?_
      simp only[QQ,Qp,Q1,seval]
      exact VH (hov1.at _) (by exact Q0 ..)
    ·simp only[fB hq2,fD hq2,QQ,Q1,seval]
     exact VH (hov1.at _) (by exact Q0 ..)
theorem yZ (hG:Gl G):∀f,(∀f'<f,PC G f')→PC G f
 |0,_=>⟨fun _ _ _ h=>by omega,fun _ _ _ h5 h=>by omega,fun _ _ _ h=>by omega⟩
 |f+1,ih=>
  have ih':∀f'≤f,PC G f':=fun f' h=>ih f' (by omega)
  ⟨fun hr hu hs hf=>G0 G (ih' f (fG _)) hr hu hs hf,fun hr hu hs h5 hf=>Rq G ih' hr hu hs h5 hf,fun hr hu hs hf=>RF G hG ih' hr hu hs hf⟩
theorem pc (hG:Gl G)(f:Nat):PC G f:=by
 induction f using Nat.strongRecOn with
 |_ f ih=>exact yZ G hG f ih
end
end Go.Proofs.YtcbjbgaefighcaaGreatDoor
