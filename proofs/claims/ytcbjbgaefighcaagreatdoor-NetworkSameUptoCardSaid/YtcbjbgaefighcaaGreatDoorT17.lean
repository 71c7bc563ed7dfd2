/- Part 17 of the proof. -/
import Derived.Test.YtcbjbgaefighcaaGreatDoorT0
import Derived.Test.YtcbjbgaefighcaaGreatDoorT8
import Derived.Test.YtcbjbgaefighcaaGreatDoorT13
import Derived.Test.YtcbjbgaefighcaaGreatDoorT16
set_option linter.all false
namespace Go.Proofs.YtcbjbgaefighcaaGreatDoor
open Go Go.Ax Go.Proofs
section
variable (G:Nat→Option (List AV))
theorem R8 {s:Bs}{b:Nat}(hb:b≤s.length):Jh s (b+QG false (s.drop b)) (b+QG false (s.drop b)+Z4 (s.drop (b+QG false (s.drop b)))) (J7 (s.drop (b+QG false (s.drop b))))=rk s (skip (s.drop b)):=by
 have h3:=JY (s.drop b) false
 simp only[dW]at h3
 have e2:s.length - (skip (s.drop b)).length=b+QG false (s.drop b):=by
  simp only[skip,dW];omega
 rw[rk,e2,←lC]
 rfl
theorem E5 {A:Q2}{s:Bs}{b:Nat}(hb:b≤s.length)(hs:s.length≤20000):
 Qq Tryz.prog G 166 [.str s,i64 b] A (fun o A'=>∃r,A r=none∧o=.ret (.ptr r 0)∧A'=A.upd r (some (rk s (skip (s.drop b))))):=by
 refine Q4 l166 (fE rfl) ?_
 simp only[Dh,Q1,seval]
 intro r hr
 refine Q3 (FW G (a:=0) (b:=b) (k:=0) (by exact Q0 ..) hb (by omega) _ rfl) ?_
 rw[R8 hb]
 simp only[Q1,seval]
 exact ZM (Wk.refl _) (Ve.refl _) ⟨r,hr,rfl,rfl⟩
def TT {α:Type}(r x:Nat)(s:Bs)(A:Q2)(enc:α→List AV):Res α→Out→Q2→Prop
 | .ok a u,o,A'=>o=.ret Zt∧A'=(A.upd r (some (rk s u))).upd x (some (.cells (enc a)))
 | .bad u,o,A'=>o=.pan (Vu 227 s u)∧A'=A.upd r none
theorem c273 (hG:Gl G){f:Nat}{A:Q2}{r p x:Nat}{s u:Bs}{zs:List AV}(hp:A p=some (.cells [.ptr r 0]))(hx:A x=some (.cells zs))(hz:zs.length=4)(hr:A r=some (rk s u))(hxr:x≠r)(hu:At s u)(hs:s.length≤20000)(hf:10*u.length+9≤f):
 Qq Tryz.prog G 273 [.ptr p 0,.ptr x 0] A (TT r x s A Exp.cells (Z9 f u)):=by
 refine Q4 l273 (fE rfl) ?_
 simp only[Eg,hp,Q1,seval]
 refine Qh (LM G hG hr hu hs hf) ?_
 intro o A' h
 cases hR:Z9 f u with
 |ok y u'=>
  rw[hR]at h
  obtain⟨rfl,rfl⟩:=h
  simp only[Q5 hxr,hx,hz,Q1,seval]
  exact ZM (Wk.refl _) (Ve.refl _) ⟨rfl,rfl⟩
 |bad u'=>
  rw[hR]at h
  obtain⟨rfl,rfl⟩:=h
  simp only[UK,Q1,seval]
  exact⟨_,Ve.refl _,rfl,rfl⟩
theorem c168 (hG:Gl G){f:Nat}{A:Q2}{r p x:Nat}{s u:Bs}(hp:A p=some (.cells [.ptr r 0]))(hx:A x=some (.cells [.str [],.raw (.slice none 0 0),.raw (.slice none 0 0)]))(hr:A r=some (rk s u))(hxr:x≠r)(hu:At s u)(hs:s.length≤20000)(hf:10*u.length+11≤f):
 Qq Tryz.prog G 168 [.ptr p 0,.ptr x 0] A (TT r x s A Func.cells (V4 f u)):=by
 refine Q4 l168 (fE rfl) ?_
 simp only[Df,hp,Q1,seval]
 refine Qh (k169 G hG hr hu hs hf) ?_
 intro o A' h
 cases hR:V4 f u with
 |ok y u'=>
  rw[hR]at h
  obtain⟨rfl,rfl⟩:=h
  simp only[Q5 hxr,hx,VL,Func.cells,Qr,Q1,seval]
  exact ZM (Wk.refl _) (Ve.refl _) ⟨rfl,rfl⟩
 |bad u'=>
  rw[hR]at h
  obtain⟨rfl,rfl⟩:=h
  simp only[UK,Q1,seval]
  exact⟨_,Ve.refl _,rfl,rfl⟩
theorem c215 {A:Q2}{a e:Nat}{s u:Bs}{v w:AV}(ha:A a=some (.cells [v]))(he:A e=some (.cells [w]))(hae:a≠e):
 W3 Tryz.prog G 215 [.ptr a 0,.ptr e 0] (some (Vu 227 s u)) A (fun pn A'=>pn=none∧A'=(A.upd a (some (.cells [i64 (s.length - u.length:Nat)]))).upd e (some (.cells [i64 80]))):=by
 refine KM FD (fE rfl) ?_
 simp only[Pw,UB,HI,Vu,Q1,seval]
 intro t ht
 have hta:=Q6 ha ht
 have hte:=Q6 he ht
 simp only[UB,Q5 hta,Q5 hte,Q5 hae.symm,ha,he,Q1,seval]
 refine⟨_,UJ fun k=> ?_,rfl⟩
 by_cases h1:k=e
 ·subst h1;exact .inl (by rw[Q0,Q0])
 by_cases h2:k=a
 ·subst h2;exact .inl (by rw[Q5 h1,Q5 h1,Q0,Q0])
 by_cases h3:k=t
 ·subst h3;exact .inr ⟨by rw[Q5 h1,Q5 h2];exact ht,by rw[Q5 h1,Q5 h2,Q0];simp⟩
 ·exact .inl (by rw[Q5 h1,Q5 h2,Q5 h1,Q5 h2,Q5 h3])
theorem Bm {A:Q2}{a e:Nat}:W3 Tryz.prog G 215 [.ptr a 0,.ptr e 0] none A (fun pn A'=>pn=none∧A'=A):=by
 refine KM FD (fE rfl) ?_
 simp only[Pw,UB,HI,Q1,seval]
 exact⟨_,Ve.refl _,rfl⟩
def WOut {α:Type}(r x:Nat)(s:Bs)(A:Q2)(enc:α→List AV):Res α→Out→Q2→Prop
 | .ok a u,o,A'=>o=.ret (.tuple [i64 0,i64 0])∧A'=(A.upd r (some (rk s u))).upd x (some (.cells (enc a)))
 | .bad u,o,A'=>o=.ret (.tuple [i64 (s.length - u.length:Nat),i64 80])∧A'=A.upd r none
theorem E4 {α:Type}{A:Q2}{r x:Nat}{s u:Bs}{enc:α→List AV}{R:Res α}{fn:FuncId}{first cap:List AV}(hr:A r=some (rk s u)){cx:AObj}(hx:A x=some cx)(hxr:x≠r)
 (h1:∀A',QJ r A A'→A' r=some (rk s u)→Qq Tryz.prog G fn (first++cap) A' (TT r x s A' enc R)):Qq Tryz.prog G 167 [.func (.func fn) first cap] A (WOut r x s A enc R):=by
 refine Q4 l167 (fE rfl) ?_
 simp only[Dg,Q1,seval]
 intro a ha e he
 obtain⟨hea,he0⟩:=Q8 he
 have hra:=Q6 hr ha
 have hre:=Q6 hr he0
 have hxa:=Q6 hx ha
 have hxe:=Q6 hx he0
 refine Qh (K:=TT r x s _ enc R) (show Qq Tryz.prog G fn (first++[]++cap) _ _ by simpa using h1 _ (by repeat first|exact QJ.refl _ _|refine QJ.at ?_ _|refine QJ.set ?_ (by assumption) (by simp)) (by rw[Q5 hre,Q5 hra,hr])) ?_
 intro o A' h
 cases R with
 |ok y u'=>
  obtain⟨rfl,rfl⟩:=h
  simp only[Q5 hra.symm,Q5 hre.symm,Q5 hxa.symm,Q5 hxe.symm,Q5 hea,Q5 hea.symm,UB,Q1,seval]
  refine W3.mono (Bm G) ?_
  rintro pn A' ⟨rfl,rfl⟩
  simp only[Q5 hra.symm,Q5 hre.symm,Q5 hxa.symm,Q5 hxe.symm,Q5 hea,Q5 hea.symm,UB,Q1,seval]
  refine ZM (Wk.refl _) (UJ fun k=> ?_) ⟨rfl,rfl⟩
  by_cases h1:k=e
  ·subst h1;exact .inr ⟨by rw[Q5 hxe.symm,Q5 hre.symm];exact he0,by simp⟩
  by_cases h2:k=a
  ·subst h2;exact .inr ⟨by rw[Q5 hxa.symm,Q5 hra.symm];exact ha,by simp [Q2.upd,h1]⟩
  refine .inl ?_
  simp only[Q2.upd,h1,h2,if_false]
 |bad u'=>
  obtain⟨rfl,rfl⟩:=h
  simp only[UB,Q1,seval]
  refine W3.mono (c215 G (a:=a) (e:=e) (v:=i64 0) (w:=i64 0) ?_ ?_ hea.symm) ?_
  ·rw[Q5 hra.symm,Q5 hea.symm,Q0]
  ·rw[Q5 hre.symm,Q0]
  rintro pn A' ⟨rfl,rfl⟩
  simp only[Q5 hra.symm,Q5 hre.symm,Q5 hxa.symm,Q5 hxe.symm,Q5 hea,Q5 hea.symm,UB,Q1,seval]
  refine ZM (Wk.refl _) (UJ fun k=> ?_) ⟨rfl,rfl⟩
  by_cases h1:k=e
  ·subst h1;exact .inr ⟨by rw[Q5 hre.symm];exact he0,by simp⟩
  by_cases h2:k=a
  ·subst h2;exact .inr ⟨by rw[Q5 hra.symm];exact ha,by simp [Q2.upd,h1]⟩
  refine .inl ?_
  simp only[Q2.upd,h1,h2,if_false]
def Vp {α:Type}(s:Bs)(zero:AV)(enc:α→AV)(small:α→Bool):Res α→AV
 | .ok x u=>if small x then .tuple [enc x,i64 (s.length - u.length:Nat),i64 0]else .tuple [zero,i64 0,i64 3]
 | .bad u=>.tuple [zero,i64 (s.length - u.length:Nat),i64 80]
theorem VM {a a' b c:AV}(h:Wk a a'):Wk (.tuple [a,b,c]) (.tuple [a',b,c]):=fun κ u hr=>by
 simp only[Qd]at hr⊢
 obtain⟨l,h1,h2⟩:=hr
 exact⟨l,h1,UC.cons h (Jm _) κ _ h2⟩
theorem E3 (hG:Gl G){f:Nat}{A:Q2}{s u:Bs}(hu:At s u)(hs:s.length≤20000)(hf:10*u.length+9≤f):
 Qz Tryz.prog G 254 [.str s,i64 (s.length - u.length:Nat)] A (Vp s (Zl JC) Zl ZL (Z9 f u)) A:=by
 have hle:=hu.le
 generalize hn:s.length - u.length=n
 have hd:skip (s.drop n)=u:=by rw[←hn,hu.drop];simp [skip,hu.nrm]
 have n0:¬((n:Int)<0):=by omega
 have n1:¬((s.length:Int)<n):=by omega
 have n2:¬((20000:Int)<s.length):=by omega
 refine Q4 l254 (fE rfl) ?_
 simp only[Em,n0,n1,n2,Q1,seval]
 intro c hc
 refine Qh (E5 G (by omega) hs) ?_
 rintro o A1 ⟨r,hr,rfl,rfl⟩
 rw[hd]
 obtain⟨hrc,hr0⟩:=Q8 hr
 simp only[Q1,seval]
 intro p hp x hx
 obtain⟨hpr,hp⟩:=Q8 hp
 obtain⟨hpc,hp0⟩:=Q8 hp
 obtain⟨hxp,hx⟩:=Q8 hx
 obtain⟨hxr,hx⟩:=Q8 hx
 obtain⟨hxc,hx0⟩:=Q8 hx
 refine Qh (E4 G (r:=r) (x:=x) (s:=s) (u:=u) (enc:=Exp.cells) (R:=Z9 f u) (cx:=.cells [i64 0,.str [],i64 0,.raw (.slice none 0 0)]) ?_ (by exact Q0 ..) hxr fun A' hov hr'=> ?_) ?_
 ·rw[Q5 hxr.symm,Q5 hpr.symm,Q0]
 ·exact c273 G hG (p:=p) (zs:=[i64 0,.str [],i64 0,.raw (.slice none 0 0)]) (hov.keep hpr (by rw[Q5 hxp.symm,Q0])) (hov.keep hxr (by exact Q0 ..)) rfl hr' hxr hu hs hf
 intro o A' h
 cases hR:Z9 f u with
 |bad u'=>
  rw[hR]at h
  obtain⟨rfl,rfl⟩:=h
  simp only[Q5 hrc.symm,Q5 hpc.symm,Q5 hxc.symm,Q1,seval]
  exact Y3 (VM (JG (Wm (k:=0) (n:=[]) (i:=0)).wk)) (by repeat(first|exact QQ.refl _|refine QQ.set ?_ (by assumption) (by simp [rk,Jh,rd,Zs])))
 |ok y u'=>
  rw[hR]at h
  obtain⟨rfl,rfl⟩:=h
  simp only[Q5 hrc.symm,Q5 hpc.symm,Q5 hxc.symm,Q1,seval]
  have hsz:(Zv y).nodes≤u.length:=by have:=Ik _ _ _ _ hu hR;simp only[YG]at this;omega
  refine Q3 (Ps G y (by omega)) ?_
  simp only[Q1,seval]
  refine Q3 (Pt G (Zv y) _) ?_
  cases hsm:(Zv y).small with
  |false=>
   simp only[Q5 hrc.symm,Q5 hpc.symm,Q5 hxc.symm,Q1,seval]
   have e:Vp s (Zl JC) Zl ZL (.ok y u')=.tuple [Zl JC,i64 0,i64 3]:=by simp only[Vp,ZL,hsm,cB,if_false]
   rw[e]
   exact Y3 (VM (JG (Wm (k:=0) (n:=[]) (i:=0)).wk)) (by repeat(first|exact QQ.refl _|refine QQ.set ?_ (by assumption) (by simp [rk,Jh,rd,Zs])))
  |true=>
   simp only[Q5 hrc.symm,Q5 hpc.symm,Q5 hxc.symm,Q5 hrc,Q5 hpc,Q5 hxc,Q5 hxp.symm,Q5 hxr.symm,Q5 hpr,Xk,QK,Q1,seval]
   have e:Vp s (Zl JC) Zl ZL (.ok y u')=.tuple [Zl y,i64 (s.length - u'.length:Nat),i64 0]:=by simp only[Vp,ZL,hsm,if_true]
   rw[e]
   exact Y3 (Wk.refl _) (by repeat(first|exact QQ.refl _|refine QQ.set ?_ (by assumption) (by simp [rk,Jh,rd,Zs])))
theorem HO:∀(l:List Stmt) (m:Siz),(Zn m l).nodes=m.nodes+ZS JZ l
 |[],m=>rfl
 |x::l,m=>by
  have ih:=HO l (m.bes (ZX x))
  simp only[Zn,List.foldl_cons]at ih⊢
  rw[ih,Jp];simp only[Siz.bes,JZ];omega
def QW (f:Func):Bool:=Jr [f]
theorem Ty:UC [.str [],.raw (.slice none 0 0),.raw (.slice none 0 0)] (Func.cells ⟨[],[],[]⟩):=.cons (Wk.refl _) (.cons ZY (.cons ZY .nil))
theorem c84 (hG:Gl G){f:Nat}{A:Q2}{s u:Bs}(hu:At s u)(hs:s.length≤20000)(hf:10*u.length+11≤f):
 Qz Tryz.prog G 84 [.str s,i64 (s.length - u.length:Nat)] A (Vp s (VL ⟨[],[],[]⟩) VL QW (V4 f u)) A:=by
 have hle:=hu.le
 generalize hn:s.length - u.length=n
 have hd:skip (s.drop n)=u:=by rw[←hn,hu.drop];simp [skip,hu.nrm]
 have n0:¬((n:Int)<0):=by omega
 have n1:¬((s.length:Int)<n):=by omega
 have n2:¬((20000:Int)<s.length):=by omega
 refine Q4 l84 (fE rfl) ?_
 simp only[C84,n0,n1,n2,Q1,seval]
 intro c hc
 refine Qh (E5 G (by omega) hs) ?_
 rintro o A1 ⟨r,hr,rfl,rfl⟩
 rw[hd]
 obtain⟨hrc,hr0⟩:=Q8 hr
 simp only[Q1,seval]
 intro p hp x hx
 obtain⟨hpr,hp⟩:=Q8 hp
 obtain⟨hpc,hp0⟩:=Q8 hp
 obtain⟨hxp,hx⟩:=Q8 hx
 obtain⟨hxr,hx⟩:=Q8 hx
 obtain⟨hxc,hx0⟩:=Q8 hx
 refine Qh (E4 G (r:=r) (x:=x) (s:=s) (u:=u) (enc:=Func.cells) (R:=V4 f u) (cx:=.cells [.str [],.raw (.slice none 0 0),.raw (.slice none 0 0)]) ?_ (by exact Q0 ..) hxr fun A' hov hr'=> ?_) ?_
 ·rw[Q5 hxr.symm,Q5 hpr.symm,Q0]
 ·exact c168 G hG (p:=p) (hov.keep hpr (by rw[Q5 hxp.symm,Q0])) (hov.keep hxr (by exact Q0 ..)) hr' hxr hu hs hf
 intro o A' h
 cases hR:V4 f u with
 |bad u'=>
  rw[hR]at h
  obtain⟨rfl,rfl⟩:=h
  simp only[Q5 hrc.symm,Q5 hpc.symm,Q5 hxc.symm,Q1,seval]
  exact Y3 (VM (JG Ty)) (by repeat(first|exact QQ.refl _|refine QQ.set ?_ (by assumption) (by simp [rk,Jh,rd,Zs])))
 |ok y u'=>
  rw[hR]at h
  obtain⟨rfl,rfl⟩:=h
  simp only[Q5 hrc.symm,Q5 hpc.symm,Q5 hxc.symm,Q1,seval]
  have hw:=Td _ _ _ _ hu hR
  have hbl:=OC Nk y.body
  simp only[Ot]at hw
  have hsum:(ZJ ⟨0,0,false⟩ [y]).nodes=ZS JZ y.body:=by
   show(Zn ⟨0,0,false⟩ y.body).nodes=_
   rw[HO];simp
  simp only[Func.cells_len,Func.cells_take,Q1,seval]
  refine QU (cs:=y.cells) (ZP _ _ (by rw[Un,Func.cells_len]) (by decide)) fun t ht=> ?_
  obtain⟨htx,ht⟩:=Q8 ht
  obtain⟨htr,ht⟩:=Q8 ht
  obtain⟨_,ht⟩:=Q8 ht
  obtain⟨htp,ht⟩:=Q8 ht
  obtain⟨_,ht⟩:=Q8 ht
  obtain⟨htc,ht0⟩:=Q8 ht
  simp only[Q1,seval]
  refine Qh (Qq.wk (.cons (Lv (by simpa using Jm _)) .nil) (E6 G [y] (by omega) (by simp) (fun f hf=>by simp at hf;subst hf;omega) (fun f hf=>by simp at hf;subst hf;omega))) ?_
  rintro o A' ⟨rfl,rfl⟩
  cases hsm:Jr [y]with
  |false=>
   simp only[Q5 hrc.symm,Q5 hpc.symm,Q5 hxc.symm,Q5 htc.symm,Q1,seval]
   have e:Vp s (VL ⟨[],[],[]⟩) VL QW (.ok y u')=.tuple [VL ⟨[],[],[]⟩,i64 0,i64 3]:=by simp only[Vp,QW,hsm,cB,if_false]
   rw[e]
   exact Y3 (VM (JG Ty)) (by repeat(first|exact QQ.refl _|refine QQ.set ?_ (by assumption) (by simp [rk,Jh,rd,Zs])))
  |true=>
   simp only[Q5 hrc.symm,Q5 hpc.symm,Q5 hxc.symm,Q5 htc.symm,Q5 htx.symm,Q5 htp.symm,Q5 htr.symm,Q5 hrc,Q5 hpc,Q5 hxc,Q5 hxp.symm,Q5 hxr.symm,Q5 hpr,Xk,Func.cells_len,Func.cells_one,Func.cells_take,QK,Q1,seval]
   have e:Vp s (VL ⟨[],[],[]⟩) VL QW (.ok y u')=.tuple [VL y,i64 (s.length - u'.length:Nat),i64 0]:=by simp only[Vp,QW,hsm,if_true]
   rw[e]
   exact Y3 (Wk.refl _) (by repeat(first|exact QQ.refl _|refine QQ.set ?_ (by assumption) (by simp [rk,Jh,rd,Zs])))
end
def Res.void {α:Type}(R:Res α):Res Unit:=R.bind fun _ u=>.ok () u
theorem Ys {α:Type}{a:α}{u:Bs}:(Res.ok a u).void=.ok () u:=rfl
theorem BA {α:Type}{u:Bs}:(Res.bad u:Res α).void=.bad u:=rfl
theorem Jo {α β:Type}{R:Res α}{k:α→Bs→Res β}:(R.bind k).void=R.bind fun a u=>(k a u).void:=by cases R <;> rfl
theorem VN {α:Type}{c:Prop}[Decidable c]{a b:Res α}:(if c then a else b).void=if c then a.void else b.void:=by split <;> rfl
section
variable {P:Program}{G:Nat→Option (List AV)}{α β:Type}{f:FuncId}{first args cap:List AV}{A A0:Q2}{r:Nat}{s:Bs}{lo lo0:Bool}{big:α→Bool}{big0:β→Bool}{enc:α→AV}{enc0:β→AV}{res:List LRes}
 {d:Option Nat}{l:List LInstr}{st:List Fr}{env:Qn}
theorem QB {R:Res α}{k:α→Bs→Res β}(h:Qq P G f (first++args++cap) A (J0 r s A lo big enc R))(hw:QJ r A0 A)
 (hok:∀a u,R=.ok a u→(ZA P G false res (J0 r s A0 lo0 big0 enc0 (k a u))).ops l st (putD env d (enc a)) [] (A.upd r (some (rd s u (lo||big a))))):
 (ZA P G false res (J0 r s A0 lo0 big0 enc0 (R.bind k))).call (.func (.func f) first cap) args d l st env [] A:=Y5 h hw.wk0 hok
theorem JE {R:Res α}{k:Bs→Res β}(h:Qq P G f (first++args++cap) A (J0 r s A lo Zh (fun _=>Zt) R.void))(hw:QJ r A0 A)
 (hok:∀a u,R=.ok a u→(ZA P G false res (J0 r s A0 lo0 big0 enc0 (k u))).ops l st (putD env d Zt) [] (A.upd r (some (rd s u lo)))):
 (ZA P G false res (J0 r s A0 lo0 big0 enc0 (R.bind fun _ u=>k u))).call (.func (.func f) first cap) args d l st env [] A:=by
 have e:(R.bind fun _ u=>k u)=R.void.bind fun _ u=>k u:=by cases R <;> rfl
 rw[e]
 refine Y5 h hw.wk0 fun a u hR=> ?_
 rw[Qo]
 cases R with
 |ok b u'=>cases hR;exact hok _ _ rfl
 |bad u'=>cases hR
theorem Lh {u:Bs}(h:Qq P G f (first++args++cap) A (J0 r s A lo big enc (.bad u:Res α)))(hw:QJ r A0 A):
 (ZA P G false res (J0 r s A0 lo0 big0 enc0 (.bad u))).call (.func (.func f) first cap) args d l st env [] A:=
 QB (R:=.bad u) (k:=fun(_:α) _=>.bad u) h hw fun _ _ h=>by cases h
theorem YW {v:AV}{a:β}{u:Bs}(h:Wk v (enc0 a))(hA:QJ r A0 A)(hr:A r=some (rd s u (lo0||big0 a))):Vn (some v) (J0 r s A0 lo0 big0 enc0 (.ok a u)) A:=
 ZM h (hA.wk hr (by intros;simp [rd,Zs])) ⟨rfl,rfl⟩
theorem YV {u:Bs}(hA:QJ r A0 A)(hr:A r=some (rd s u lo0)):Vn (some Zt) (J0 r s A0 lo0 Zh (fun _=>Zt) (.ok () u)) A:=
 YW (Wk.refl _) hA (by rw[Qo];exact hr)
end
theorem X6 {k:IntKind}{a b:Int}:Qg .lss .num (.raw (.int k a)) (.raw (.int k b))=some (.raw (.bool (decide (a<b)))):=by simp only[Qg,if_true,Z7,cO]
theorem Wa (s u:Bs)(lo:Bool):rd s u lo=.cells [.str s,i64 (s.length - u.length:Nat),i64 (s.length - u.length+Z4 u:Nat),bo lo]:=rfl
section
variable (G:Nat→Option (List AV))
abbrev VC (r:Nat)(s:Bs)(A:Q2)(lo:Bool)(R:Res Unit):=J0 r s A lo Zh (fun _=>Zt) R
theorem Fw {A:Q2}{r p:Nat}{s u:Bs}{lo:Bool}(hp:A p=some (.cells [.ptr r 0]))(hr:A r=some (rd s u lo))(hu:At s u):Qz Tryz.prog G 283 [.ptr p 0] A (bo (Y0 u)) A:=by
 have hle:=hu.le
 rw[Wa]at hr
 refine Q4 l283 (fE rfl) ?_
 cases u with
 |nil=>
  have h1:decide (((s.length - 0:Nat):Int)<s.length)=false:=by simp
  simp only[Px,X6,hp,hr,h1,QK,Q1,seval]
  exact Qv rfl (Ve.refl _)
 |cons c t=>
  have h1:(((s.length - (t.length+1):Nat):Int)<s.length):=by simp at hle⊢;omega
  simp only[cE]at hr
  have hcc:s[s.length - (t.length+1)]? =some c:=by
   have:=hu.drop
   rw[cE]at this
   have h2:=congrArg (fun l=>l[0]?) this
   simpa using h2
  simp only[Px,X6,fA h1,hp,hr,hcc,Q1,seval]
  refine Q3 (Ta G c _) ?_
  simp only[QK,hp,hr,hcc,Q1,seval]
  exact Qv rfl (Ve.refl _)
structure PC (f:Nat):Prop where
 e:∀{A:Q2} {r:Nat} {s u:Bs} {lo:Bool},A r=some (rd s u lo)→At s u→s.length≤20000→10*u.length+9≤f→Qq Tryz.prog G 220 [.ptr r 0] A (VC r s A lo (Z9 f u).void)
 r:∀{A:Q2} {r:Nat} {s u:Bs} {lo:Bool} {n:Nat},A r=some (rd s u lo)→At s u→s.length≤20000→n≤5→10*u.length+8≤f+n→Qq Tryz.prog G 250 [.ptr r 0,i64 n] A (VC r s A lo (JI f (n+1) u).void)
 u:∀{A:Q2} {r:Nat} {s u:Bs} {lo:Bool},A r=some (rd s u lo)→At s u→s.length≤20000→10*u.length+2≤f→Qq Tryz.prog G 271 [.ptr r 0] A (VC r s A lo (ZE f u).void)
theorem SG {f:Nat}(ih:PC G f){A:Q2}{r:Nat}{s u:Bs}{lo:Bool}(hr:A r=some (rd s u lo))(hu:At s u)(hs:s.length≤20000)(hf:10*u.length+9≤f+1):Qq Tryz.prog G 220 [.ptr r 0] A (VC r s A lo (Z9 (f+1) u).void):=by
 refine Q4 l220 (fE rfl) ?_
 simp only[EM,Q1,seval]
 simp only[Z9,Jo,VN,Ys]
 refine JE (ih.r (n:=0) hr hu hs (by decide) (by omega)) (by repeat first|exact QJ.refl _ _|refine QJ.at ?_ _|refine QJ.set ?_ (by assumption) (by simp)) fun x u1 h1=> ?_
 have b1:=(Of f).r _ _ _ _ _ hu h1
 simp only[Q1,seval]
 refine Q3 (Yg G (by exact Q0 ..) b1.at' hs) ?_
 by_cases hc:Qc u1=[63]
 ·have b2:=Beh.adv b1.at' hc (by decide)
  have:=b1.lt
  have:=b2.lt
  simp only[fA hc,fC hc,Q1,seval]
  refine JE (ih.e (by exact Q0 ..) b2.at' hs (by omega)) (by repeat first|exact QJ.refl _ _|refine QJ.at ?_ _|refine QJ.set ?_ (by assumption) (by simp)) fun y u2 h2=> ?_
  have b3:=Jk _ _ _ _ b2.at' h2
  simp only[Q1,seval]
  refine QB (Y9 G (by exact Q0 ..) b3.at' (by omega)) (by repeat first|exact QJ.refl _ _|refine QJ.at ?_ _|refine QJ.set ?_ (by assumption) (by simp)) fun _ u3 h3=> ?_
  have b4:=Qm (by decide) _ _ _ _ b3.at' h3
  have:=b3.lt
  have:=b4.lt
  simp only[Qo,Q1,seval]
  refine JE (ih.e (by exact Q0 ..) b4.at' hs (by omega)) (by repeat first|exact QJ.refl _ _|refine QJ.at ?_ _|refine QJ.set ?_ (by assumption) (by simp)) fun z u4 h4=> ?_
  simp only[Q1,seval]
  exact YV (by repeat first|exact QJ.refl _ _|refine QJ.at ?_ _|refine QJ.set ?_ (by assumption) (by simp)) (by exact Q0 ..)
 ·simp only[fB hc,fD hc,Q1,seval]
  exact YV (by repeat first|exact QJ.refl _ _|refine QJ.at ?_ _|refine QJ.set ?_ (by assumption) (by simp)) (by exact Q0 ..)
theorem HY (n:Nat)(t:Bs):t∈(Zq n).map Prod.fst↔∃k,VV n t=some k:=by
 unfold VV
 generalize Zq n=l
 induction l with
 |nil=>simp
 |cons p l ih=>
  obtain⟨a,b⟩:=p
  simp only[cJ,dT,List.lookup_cons,ih]
  cases h:t==a with
  |true=>simp [beq_iff_eq.1 h]
  |false=>
   have:¬t=a:=by simpa using h
   simp [this]
theorem HM:∀(f n:Nat) (x y:Exp) (u:Bs),(Ji f n x u).void=(Ji f n y u).void:=by
 intro f
 induction f with
 |zero=>intro n x y u;rfl
 |succ f ih=>
  intro n x y u
  simp only[Ji]
  split
  ·rfl
  ·rename_i k hk
   simp only[Jo,VN,Ys]
   congr 1
   funext a u
   split
   ·rfl
   ·exact ih _ _ _ _
theorem Mx {f:Nat}(ih:∀f'≤f,PC G f'){A:Q2}{r:Nat}{s u:Bs}{lo:Bool}{n:Nat}(hr:A r=some (rd s u lo))(hu:At s u)(hs:s.length≤20000)(hn5:n≤5)(hf:10*u.length+8≤f+1+n):Qq Tryz.prog G 250 [.ptr r 0,i64 n] A (VC r s A lo (JI (f+1) (n+1) u).void):=by
 refine Q4 l250 (fE rfl) ?_
 have hw:IntKind.i64.wrap ((n:Int)+1)=((n+1:Nat):Int):=by rw[Qf (by omega) (by omega)];rfl
 simp only[Er,Q1,seval]
 refine QU (cs:=[.str [124,124]]) (by kernel_rfl) fun t1 ht1=> ?_
 simp only[Q1,seval]
 refine QU (cs:=[.str [38,38]]) (by kernel_rfl) fun t2 ht2=> ?_
 simp only[Q1,seval]
 refine QU (cs:=[.str [60],.str [60,61],.str [61,61],.str [33,61],.str [62,61],.str [62]]) (by kernel_rfl) fun t3 ht3=> ?_
 simp only[Q1,seval]
 refine QU (cs:=[.str [43],.str [45]]) (by kernel_rfl) fun t4 ht4=> ?_
 simp only[Q1,seval]
 refine QU (cs:=[.str [42],.str [47],.str [37]]) (by kernel_rfl) fun t5 ht5=> ?_
 obtain⟨_,ht2⟩:=Q8 ht2
 obtain⟨_,ht3⟩:=Q8 ht3
 obtain⟨_,ht3⟩:=Q8 ht3
 obtain⟨_,ht4⟩:=Q8 ht4
 obtain⟨_,ht4⟩:=Q8 ht4
 obtain⟨_,ht4⟩:=Q8 ht4
 obtain⟨_,ht5⟩:=Q8 ht5
 obtain⟨_,ht5⟩:=Q8 ht5
 obtain⟨_,ht5⟩:=Q8 ht5
 obtain⟨_,ht5⟩:=Q8 ht5
 simp only[Q1,seval]
 intro c hc
 obtain⟨_,hc⟩:=Q8 hc
 obtain⟨_,hc⟩:=Q8 hc
 obtain⟨_,hc⟩:=Q8 hc
 obtain⟨_,hc⟩:=Q8 hc
 obtain⟨_,hc⟩:=Q8 hc
 have hcr:=Q6 hr hc
 have hOB:QJ r A ((((((A.upd t1 (some .tip)).upd t2 (some .tip)).upd t3 (some .tip)).upd t4 (some .tip)).upd t5 (some .tip)).upd c (some (.cells [.slice 1 1 [.str [124,124]] (some t1),.slice 1 1 [.str [38,38]] (some t2),.slice 1 6 [.str [60],.str [60,61],.str [61,61],.str [33,61],.str [62,61],.str [62]] (some t3),.slice 1 2 [.str [43],.str [45]] (some t4),.slice 1 3 [.str [42],.str [47],.str [37]] (some t5)]))):=(by repeat first|exact QJ.refl _ _|refine QJ.at ?_ _|refine QJ.set ?_ (by assumption) (by simp))
 have hrB:=hOB
 have e1:=Q6 hr ht1
 have e2:=Q6 hr ht2
 have e3:=Q6 hr ht3
 have e4:=Q6 hr ht4
 have e5:=Q6 hr ht5
 have hBr:((((((A.upd t1 (some .tip)).upd t2 (some .tip)).upd t3 (some .tip)).upd t4 (some .tip)).upd t5 (some .tip)).upd c (some (.cells [.slice 1 1 [.str [124,124]] (some t1),.slice 1 1 [.str [38,38]] (some t2),.slice 1 6 [.str [60],.str [60,61],.str [61,61],.str [33,61],.str [62,61],.str [62]] (some t3),.slice 1 2 [.str [43],.str [45]] (some t4),.slice 1 3 [.str [42],.str [47],.str [37]] (some t5)]))) r=some (rd s u lo):=by
  rw[Q5 hcr,Q5 e5,Q5 e4,Q5 e3,Q5 e2,Q5 e1,hr]
 obtain⟨L,hL,hLn⟩:∃L:List AV,L=[.slice 1 1 [.str [124,124]] (some t1),.slice 1 1 [.str [38,38]] (some t2),.slice 1 6 [.str [60],.str [60,61],.str [61,61],.str [33,61],.str [62,61],.str [62]] (some t3),.slice 1 2 [.str [43],.str [45]] (some t4),.slice 1 3 [.str [42],.str [47],.str [37]] (some t5)]∧
  ∀n<5,∃v,L[n]? =some v∧Wk v (LL ((Zq (n+1)).map Prod.fst)):=by
  refine⟨_,rfl,fun n hn=> ?_⟩
  have:n=0∨n=1∨n=2∨n=3∨n=4:=by omega
  rcases this with rfl|rfl|rfl|rfl|rfl <;> exact⟨_,rfl,J9⟩
 rw[←hL]at hOB hBr⊢
 have hBc:∀B:Q2,(B.upd c (some (.cells L))) c=some (.cells L):=fun B=>Q0 ..
 generalize hB:(((((A.upd t1 (some .tip)).upd t2 (some .tip)).upd t3 (some .tip)).upd t4 (some .tip)).upd t5 (some .tip)).upd c (some (.cells L))=B at*
 have hBc':B c=some (.cells L):=by rw[←hB];exact Q0 ..
 refine⟨fun h5=> ?_,fun h5=> ?_⟩
 ·simp only[JI]
  rw[fC (by omega)]
  have e:∀R:Res Unit,R=R.bind fun _ u=>.ok () u:=fun R=>by cases R <;> rfl
  have e2:(ZE f u).void=(ZE f u).bind fun _ u=>.ok () u:=rfl
  rw[e2]
  refine JE ((ih f (fG _)).u hBr hu hs (by omega)) hOB fun x u1 h1=> ?_
  simp only[QO,Q1,seval]
  exact YV (hOB.at _) (by exact Q0 ..)
 ·simp only[JI,VN,Jo]
  rw[fD (by omega),hw]
  have hvoid:((JI f (n+1+1) u).bind fun a u=>(Ji f (n+1) a u).void)=(JI f (n+1+1) u).bind fun _ u=>(Ji f (n+1) JC u).void:=by
   congr 1
   funext a u
   exact HM _ _ _ _ _
  rw[hvoid]
  refine JE ((ih f (fG _)).r hBr hu hs (by omega) (by omega)) hOB fun x u1 h1=> ?_
  have b1:=(Of f).r _ _ _ _ _ hu h1
  have:=b1.lt
  simp only[Q1,seval]
  refine Qt (fun k env ds A'=>∃(x':Exp) (u':Bs) (f':Nat),k=u'.length∧env 0=.ptr r 0∧env 1=i64 n∧env 4=.ptr c 0∧ds=[]∧At s u'∧u'.length<u.length∧A' r=some (rd s u' lo)∧
   A' c=some (.cells L)∧QJ r A A'∧f'≤f∧10*u'.length+1≤f'∧(Ji f (n+1) JC u1).void=(Ji f' (n+1) x' u').void) u1.length
   ⟨JC,u1,f,rfl,rfl,rfl,rfl,rfl,b1.at',b1.lt,(by exact Q0 ..),by rw[Q5 hcr.symm,hBc'],hOB.at _,fG _,by omega,rfl⟩ ?_
  rintro k env ds A' ⟨x',u',f',rfl,e0,e1',e4',rfl,hu',hlt,hr',hc',hov',hff,hfu,hR⟩
  obtain⟨f',rfl⟩:∃g,f'=g+1:=⟨f' - 1,by omega⟩
  obtain⟨v,hv1,hv2⟩:=hLn n (by omega)
  have hn5':((n:Int)<5):=by omega
  simp only[e0,e1',e4',hc',Nat.mul_one,hv1,Q1,seval]
  refine⟨by omega,Q3 (WM G hr' hu') ?_⟩
  simp only[e0,e1',e4',hc',hv1,QK,Q1,seval]
  refine Qh (Qq.wk (.cons hv2 (.cons (Wk.refl _) .nil)) (f79 G ((Zq (n+1)).map Prod.fst) (Qc u') A' (by
   have:n=0∨n=1∨n=2∨n=3∨n=4:=by omega
   rcases this with rfl|rfl|rfl|rfl|rfl <;> decide))) ?_
  rintro o A1 ⟨rfl,rfl⟩
  rw[hR]
  cases ho:VV (n+1) (Qc u')with
  |none=>
   have hm:¬Qc u'∈(Zq (n+1)).map Prod.fst:=fun h=>by obtain⟨k,hk⟩:=(HY _ _).1 h;rw[ho]at hk;cases hk
   simp only[fB hm,Ji,ho]
   simp only[e0,e1',e4',Ys,QO,Q1,seval]
   exact YV hov' hr'
  |some k=>
   have hm:Qc u'∈(Zq (n+1)).map Prod.fst:=(HY _ _).2 ⟨k,ho⟩
   have b2:=Beh.adv hu' rfl (WX ho)
   have:=b2.lt
   simp only[fA hm,Ji,ho,Jo,VN,Ys]
   simp only[e0,e1',e4',Q1,seval]
   refine Q3 (Xd G hr' hu' (by omega)) ?_
   simp only[e0,e1',e4',Q1,seval]
   rw[hw]
   have hk2:((JI f' (n+1+1) (adv u')).bind fun a u_1=>if n=2 then Res.ok () u_1 else(Ji f' (n+1) (Exp.mk k [] 0 [x',a]) u_1).void)=(JI f' (n+1+1) (adv u')).bind fun _ u_1=>if n=2 then Res.ok () u_1 else(Ji f' (n+1) JC u_1).void:=by
    congr 1
    funext a u
    split
    ·rfl
    ·exact HM _ _ _ _ _
   rw[hk2]
   refine JE ((ih f' (by omega)).r (by exact Q0 ..) b2.at' hs (by omega) (by omega)) (hov'.at _) fun y u2 h2=> ?_
   have b3:=(Of f').r _ _ _ _ _ b2.at' h2
   have:=b3.lt
   simp only[e0,e1',e4',Q1,seval]
   refine⟨fun h3=> ?_,fun h3=> ?_⟩
   ·rw[fC (by omega)]
    exact YV (hov'.at _) (by exact Q0 ..)
   ·refine⟨u2.length,by omega,JC,u2,f',rfl,b3.at',by omega,rfl,?_,hov'.at _,by omega,by omega,?_⟩
    ·rw[Q5 hcr.symm,hc']
    ·simp only[h2,Qe]
     rw[fD (by omega)]
theorem M8 {α:Type}{sep:Bs}{one:Bs→Res α}:∀(f:Nat) (l:List α) (m:List Unit) (u:Bs),(ZT sep one f l u).void=(ZT sep (fun u=>(one u).void) f m u).void
 |0,_,_,_=>rfl
 |f+1,l,m,u=>by
  simp only[ZT,VN,Jo,Ys]
  split
  ·cases one (adv u)with
   |ok a u1=>exact M8 f _ _ _
   |bad u1=>rfl
  ·rfl
theorem P2 {α:Type}{sep:Bs}{one:Bs→Res α}{f:Nat}{u:Bs}:(J2 sep one f u).void=(J2 sep (fun u=>(one u).void) f u).void:=by
 simp only[J2,Jo]
 cases one u with
 |ok a u1=>exact M8 f _ _ _
 |bad u1=>rfl
theorem Ti {α:Type}{p:Bs→Res α}(h:Tk p):Tk fun u=>(p u).void:=fun s u a u' hu e=>by
 cases hp:p u with
 |ok b u1=>simp only[hp]at e;cases e;exact h s u b _ hu hp
 |bad u1=>simp only[hp]at e;cases e
theorem U3 {α:Type}:∀(l:List α),l.any Zh=false
 |[]=>rfl
 |a::l=>by simp [Zh]
theorem n285 {f:Nat}(ih:PC G f){A:Q2}{r p:Nat}{s u:Bs}{lo:Bool}(hp:A p=some (.cells [.ptr r 0]))(hr:A r=some (rd s u lo))(hu:At s u)(hs:s.length≤20000)(hf:10*u.length+9≤f):
 Qq Tryz.prog G 285 [.ptr p 0] A (J0 r s A lo Zh (fun _=>bo true) (Z9 f u).void):=by
 refine Q4 l285 (fE rfl) ?_
 simp only[Ed,hp,Q1,seval]
 refine JE (ih.e hr hu hs hf) (by repeat first|exact QJ.refl _ _|refine QJ.at ?_ _|refine QJ.set ?_ (by assumption) (by simp)) fun y u2 h2=> ?_
 simp only[Q1,seval]
 exact YW (Wk.refl _) (by repeat first|exact QJ.refl _ _|refine QJ.at ?_ _|refine QJ.set ?_ (by assumption) (by simp)) (by rw[Qo];exact Q0 ..)
theorem MN (hG:Gl G){f:Nat}(ih:∀f'≤f,PC G f'){A:Q2}{r:Nat}{s u:Bs}{lo:Bool}(hr:A r=some (rd s u lo))(hu:At s u)(hs:s.length≤20000)(hf:10*u.length+2≤f+1):Qq Tryz.prog G 271 [.ptr r 0] A (VC r s A lo (ZE (f+1) u).void):=by
 refine Q4 l271 (fE rfl) ?_
 simp only[Eh,Q1,seval]
 intro p hp
 have hpr:=Q6 hr hp
 refine Qt (fun k env ds A'=>∃(u':Bs) (f':Nat),k=u'.length∧env 1=.ptr p 0∧ds=[]∧At s u'∧u'.length≤u.length∧A' r=some (rd s u' lo)∧
  A' p=some (.cells [.ptr r 0])∧QJ r A A'∧f'≤f+1∧10*u'.length+2≤f'∧(ZE (f+1) u).void=(ZE f' u').void) u.length
  ⟨u,f+1,rfl,rfl,rfl,hu,fG _,by rw[Q5 hpr,hr],(by exact Q0 ..),(by repeat first|exact QJ.refl _ _|refine QJ.at ?_ _|refine QJ.set ?_ (by assumption) (by simp)),fG _,hf,rfl⟩ ?_
 rintro k env ds A' ⟨u',f',rfl,e1,rfl,hu',hle,hr',hp',hov,hff,hfu,hR⟩
 obtain⟨f',rfl⟩:∃g,f'=g+1:=⟨f' - 1,by omega⟩
 obtain⟨f',rfl⟩:∃g,f'=g+1:=⟨f' - 1,by omega⟩
 rw[hR]
 simp only[e1,hp',Q1,seval]
 refine Q3 (Yg G hr' hu' hs) ?_
 by_cases hb:Qc u'=[33]
 ·have b1:=Beh.adv hu' hb (by decide)
  have:=b1.lt
  simp only[fA hb,fC hb,e1,Q1,seval]
  refine⟨(adv u').length,by omega,adv u',f'+1,rfl,b1.at',by omega,rfl,by rw[Q5 hpr.symm,hp'],hov.at _,by omega,by omega,?_⟩
  simp only[ZE]
  rw[fC hb]
  simp only[Jo,Ys];rfl
 have hR2:(ZE (f'+1+1) u').void=if Qc u'=Vv then(if Y0 (adv u')then(JF true (adv u')).void else(ZE (f'+1) (adv u')).void)else(Yb (f'+1) u').void:=by
  have key:∀g,(ZE (g+1) u').void=if Qc u'=Vv then(if Y0 (adv u')then(JF true (adv u')).void else(ZE g (adv u')).void)else(Yb g u').void:=fun g=>by
   simp only[ZE]
   rw[fD hb]
   simp only[VN,Jo,Ys];rfl
  exact key _
 rw[hR2]
 have hr1:(A'.upd r (some (rd s u' lo))) r=some (rd s u' lo):=Q0 ..
 have hp1:(A'.upd r (some (rd s u' lo))) p=some (.cells [.ptr r 0]):=by rw[Q5 hpr.symm,hp']
 have hov1:QJ r A (A'.upd r (some (rd s u' lo))):=hov.at _
 simp only[fB hb,fD hb,e1,Q1,seval]
 generalize A'.upd r (some (rd s u' lo))=B at*
 refine Q3 (Fw G hp1 hr1 hu') ?_
 cases hn:Y0 u' with
 |true=>
  have hm:¬Qc u'=Vv:=fun h=>by
   have:=KU hn
   rw[h]at this;revert this;decide
  rw[fD hm]
  have hP:(Yb (f'+1) u').void=(Yf u').bind fun _ u=>.ok () u:=by
   simp only[Yb,Yf,hn,if_true,Jo,Ys]
   rw[fD hm]
  rw[hP]
  simp only[e1,hp1,Q1,seval]
  refine QB (Xf G hG hr1 hu' hs) hov1 fun _ u1 h1=> ?_
  simp only[QO,Qo,Q1,seval]
  exact YV (hov1.at _) (by exact Q0 ..)
 |false=>
  simp only[e1,hp1,Q1,seval]
  refine Q3 (WM G hr1 hu') ?_
  simp only[e1,hp1,Q1,seval]
  refine⟨fun hm=> ?_,fun hm=> ?_⟩
  ·have b1:=Beh.adv hu' hm (by decide)
   have:=b1.lt
   rw[fC (show Qc u'=Vv from hm)]
   have hrc:B r=some (.cells [.str s,i64 (s.length - u'.length:Nat),i64 (s.length - u'.length+Z4 u':Nat),bo lo]):=by rw[hr1,Wa]
   simp only[e1,hp1,hrc,Q1,seval]
   intro m hm'
   have hmr:=Q6 hr1 hm'
   have hmp:=Q6 hp1 hm'
   have hm0:=hov1.gone (Ne.symm hmr) hm'
   simp only[Q5 hmp,hp1,Q1,seval]
   refine Q3 (Xd G (s:=s) (u:=u') (lo:=lo) (by rw[Q5 hmr,hr1]) hu' (by omega)) ?_
   simp only[e1,Q5 hmp,Q5 hpr.symm,hp1,Q1,seval]
   have hov2:∀X Y,QJ r A ((B.upd m (some (.cells X))).upd r Y):=fun X Y=>QJ.at (QJ.set hov1 hm0 (by simp)) _
   refine Q3 (Fw G (r:=r) (s:=s) (u:=adv u') (lo:=lo) (by rw[Q5 hpr.symm,Q5 hmp,hp1]) (by exact Q0 ..) b1.at') ?_
   cases hna:Y0 (adv u')with
   |true=>
    simp only[e1,Q5 hmp,Q5 hpr.symm,Q5 hmr.symm,hp1,Wa,Q1,seval]
    have hP:(JF true (adv u')).void=(Yf u').bind fun _ u=>.ok () u:=by
     simp only[Yf]
     rw[fC (show Qc u'=Vv from hm)];rfl
    rw[hP]
    refine QB (Xf G hG (s:=s) (u:=u') (lo:=lo) (by exact Q0 ..) hu' hs) (hov2 _ _) fun _ u1 h1=> ?_
    simp only[QO,Qo,Q1,seval]
    exact YV (hov2 _ _) (by exact Q0 ..)
   |false=>
    simp only[e1,Q5 hmp,Q5 hpr.symm,hp1,Q1,seval]
    have e2:(ZE (f'+1) (adv u')).void=(ZE (f'+1) (adv u')).bind fun _ u=>.ok () u:=rfl
    rw[e2]
    refine JE ((ih (f'+1) (by omega)).u (by exact Q0 ..) b1.at' hs (by omega)) (hov2 _ _) fun _ u1 h1=> ?_
    simp only[QO,Q1,seval]
    exact YV (hov2 _ _) (by exact Q0 ..)
  ·rw[fD (show¬Qc u'=Vv from hm)]
   have hP:(Yb (f'+1) u').void=if Qc u'=[40]then(Z9 f' (adv u')).bind fun _ u1=>(Qw [41] u1).bind fun _ u2=>.ok () u2
    else(Zb u').bind fun s u1=>if Qc u1=[40]then(Uc (fun u=>Z9 f' u) f' (adv u1)).bind fun _ u2=>.ok () u2 else .ok () u1:=by
    simp only[Yb,hn,cB,if_false,VN,Jo,Ys]
   rw[hP]
   refine Q3 (Yg G hr1 hu' hs) ?_
   by_cases hq:Qc u'=[40]
   ·have b1:=Beh.adv hu' hq (by decide)
    have:=b1.lt
    simp only[fA hq,fC hq,e1,Q5 hpr.symm,hp1,Q1,seval]
    refine JE ((ih f' (by omega)).e (by exact Q0 ..) b1.at' hs (by omega)) (hov1.at _) fun _ u1 h1=> ?_
    have b2:=Jk _ _ _ _ b1.at' h1
    simp only[e1,Q5 hpr.symm,hp1,Q1,seval]
    refine QB (Y9 G (by exact Q0 ..) b2.at' (by omega)) (hov1.at _) fun _ u2 h2=> ?_
    simp only[QO,Qo,Q1,seval]
    exact YV (hov1.at _) (by exact Q0 ..)
   ·simp only[fB hq,fD hq,e1,Q5 hpr.symm,hp1,Q1,seval]
    refine QB (XT G (by exact Q0 ..) hu' (by omega)) (hov1.at _) fun nm u1 h1=> ?_
    have b1:=QM _ _ _ _ hu' h1
    have:=b1.lt
    simp only[e1,Q5 hpr.symm,hp1,Qo,Q1,seval]
    refine Q3 (Yg G (by exact Q0 ..) b1.at' hs) ?_
    by_cases hq2:Qc u1=[40]
    ·have b2:=Beh.adv b1.at' hq2 (by decide)
     have:=b2.lt
     simp only[fA hq2,fC hq2,e1,Q5 hpr.symm,hp1,Uc,Q1,seval]
     refine Q3 (Yg G (by exact Q0 ..) b2.at' hs) ?_
     by_cases hq3:Qc (adv u1)=[41]
     ·simp only[fA hq3,fC hq3,Qe,QO,Q1,seval]
      exact YV (hov1.at _) (by exact Q0 ..)
     ·simp only[fB hq3,fD hq3,e1,Q5 hpr.symm,hp1,Ze,Qe,Q1,seval]
      have hL:((J2 [44] (fun u=>Z9 f' u) f' (adv u1)).bind fun _ u1=>(Qw [41] u1).bind fun _ u2=>Res.ok () u2)=(J2 [44] (fun u=>(Z9 f' u).void) f' (adv u1)).bind fun _ u1=>(Qw [41] u1).bind fun _ u2=>Res.ok () u2:=by
       have:=P2 (sep:=[44]) (one:=fun u=>Z9 f' u) (f:=f') (u:=adv u1)
       revert this
       cases J2 [44] (fun u=>Z9 f' u) f' (adv u1) <;> cases J2 [44] (fun u=>(Z9 f' u).void) f' (adv u1) <;> intro h <;> simp only[Res.void,Qe,IT]at h⊢ <;> cases h <;> rfl
      rw[hL]
      refine QB (n284 G (one:=fun u=>(Z9 f' u).void) (big:=Zh) (enc:=fun _=>bo true) (fn:=285) (first:=[]) (cap:=[.ptr p 0]) (by exact Q0 ..) b2.at' hs (by decide) (by omega) (fun A'' u'' lo'' hov'' hr'' hu'' hl''=>n285 G (ih f' (by omega)) (hov''.keep hpr.symm (by rw[Q5 hpr.symm,hp1])) hr'' hu'' hs (by omega)) (Ti Jk) (fun _=>rfl) (fun _=>rfl)) (hov1.at _) fun l u2 h2=> ?_
      have b3:=Va (by decide) (Ti Jk) _ _ _ _ b2.at' h2
      simp only[e1,Q5 hpr.symm,hp1,U3,cT,Q1,seval]
      refine QB (Y9 G (by exact Q0 ..) b3.at' (by omega)) (hov1.at _) fun _ u3 h3=> ?_
      simp only[QO,Qo,Q1,seval]
      exact YV (hov1.at _) (by exact Q0 ..)
    ·simp only[fB hq2,fD hq2,QO,Q1,seval]
     exact YV (hov1.at _) (by exact Q0 ..)
theorem B7 (hG:Gl G):∀f,(∀f'<f,PC G f')→PC G f
 |0,_=>⟨fun _ _ _ h=>by omega,fun _ _ _ h5 h=>by omega,fun _ _ _ h=>by omega⟩
 |f+1,ih=>
  have ih':∀f'≤f,PC G f':=fun f' h=>ih f' (by omega)
  ⟨fun hr hu hs hf=>SG G (ih' f (fG _)) hr hu hs hf,fun hr hu hs h5 hf=>Mx G ih' hr hu hs h5 hf,fun hr hu hs hf=>MN G hG ih' hr hu hs hf⟩
theorem pc (hG:Gl G)(f:Nat):PC G f:=by
 induction f using Nat.strongRecOn with
 |_ f ih=>exact B7 G hG f ih
end
end Go.Proofs.YtcbjbgaefighcaaGreatDoor
