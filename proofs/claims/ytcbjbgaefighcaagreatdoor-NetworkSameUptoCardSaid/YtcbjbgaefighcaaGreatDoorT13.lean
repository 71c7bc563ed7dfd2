/- Part 13 of the proof. -/
import Derived.Test.YtcbjbgaefighcaaGreatDoorT0
import Derived.Test.YtcbjbgaefighcaaGreatDoorT10
import Derived.Test.YtcbjbgaefighcaaGreatDoorT11
import Derived.Test.YtcbjbgaefighcaaGreatDoorT12
import Derived.Lib.ParseIntBCases
import Derived.Lib.ConvBytes
set_option linter.all false
namespace Go.Proofs.YtcbjbgaefighcaaGreatDoor
open Go Go.Ax Go.Proofs
structure Beh (s u u':Bs):Prop where
 at':At s u'
 lt:u'.length<u.length
structure Beq (s u u':Bs):Prop where
 at':At s u'
 le:u'.length≤u.length
theorem Beh.beq {s u u':Bs}(h:Beh s u u'):Beq s u u':=⟨h.at',Nat.le_of_lt h.lt⟩
theorem Beh.trans {s a b c:Bs}(h:Beh s a b)(k:Beq s b c):Beh s a c:=⟨k.at',Nat.lt_of_le_of_lt k.le h.lt⟩
theorem Beq.trans {s a b c:Bs}(h:Beq s a b)(k:Beq s b c):Beq s a c:=⟨k.at',fI k.le h.le⟩
theorem Bq {s a b c:Bs}(h:Beq s a b)(k:Beh s b c):Beh s a c:=⟨k.at',Nat.lt_of_lt_of_le k.lt h.le⟩
theorem Beq.refl {s u:Bs}(h:At s u):Beq s u u:=⟨h,fG _⟩
theorem Beh.adv {s u w:Bs}(h:At s u)(hw:Qc u=w)(hn:w≠[]):Beh s u (adv u):=⟨h.adv,Lt hw hn⟩
theorem bind_ok {α β:Type}{R:Res α}{k:α→Bs→Res β}{b:β}{u':Bs}(h:R.bind k=.ok b u'):∃a u1,R=.ok a u1∧k a u1=.ok b u':=by
 cases R with
 |ok a u=>exact⟨a,u,rfl,h⟩
 |bad u=>cases h
def Tk {α:Type}(p:Bs→Res α):Prop:=∀s u a u',At s u→p u=.ok a u'→Beh s u u'
def Xv {α:Type}(p:Bs→Res α):Prop:=∀s u a u',At s u→p u=.ok a u'→Beq s u u'
theorem Qm {w:Bs}(hw:w≠[]):Tk (Qw w):=fun s u a u' hu h=>by
 unfold Qw at h
 split at h
 ·rename_i hc;cases h;exact .adv hu hc hw
 ·cases h
theorem Nm {w:Bs}(h:Qk w=true):w≠[]:=fun e=>by subst e;cases h
theorem QM:Tk Zb:=fun s u a u' hu h=>by
 unfold Zb at h
 split at h
 ·rename_i hc;cases h;exact .adv hu rfl (Nm hc)
 ·cases h
theorem Nt {u:Bs}(h:Y0 u=true):u≠[]:=fun e=>by subst e;cases h
theorem Wv {neg:Bool}:Tk (JF neg):=fun s u a u' hu h=>by
 unfold JF at h
 split at h
 ·rename_i hc
  split at h
  ·cases h
  ·cases h;exact⟨hu.adv,Si (Nt hc)⟩
 ·cases h
theorem Im:Tk Yf:=fun s u a u' hu h=>by
 unfold Yf at h
 split at h
 ·rename_i hc
  have h1:=Beh.adv hu hc (by decide)
  exact h1.trans (Wv _ _ _ _ h1.at' h).beq
 ·exact Wv _ _ _ _ hu h
theorem WX {n:Nat}{t:Bs}{k:Int}(h:VV n t=some k):t≠[]:=fun e=>by
 subst e
 unfold VV Zq at h
 split at h <;> simp [List.lookup]at h <;> revert h <;> decide
theorem RW {α:Type}{sep:Bs}{one:Bs→Res α}(hs:sep≠[])(h1:Tk one):∀f l,Xv (ZT sep one f l)
 |0,_=>fun _ _ _ _ _ h=>by simp [ZT]at h
 |f+1,l=>fun s u a u' hu h=>by
  simp only[ZT]at h
  split at h
  ·rename_i hc
   have b0:=Beh.adv hu hc hs
   obtain⟨y,u1,h2,h⟩:=bind_ok h
   have b1:=h1 _ _ _ _ b0.at' h2
   exact(b0.trans (b1.trans (RW hs h1 f _ _ _ _ _ b1.at' h)).beq).beq
  ·cases h;exact .refl hu
theorem Va {α:Type}{sep:Bs}{one:Bs→Res α}(hs:sep≠[])(h1:Tk one){f:Nat}:Tk (J2 sep one f):=fun s u a u' hu h=>by
 obtain⟨y,u1,h2,h⟩:=bind_ok h
 have b1:=h1 _ _ _ _ hu h2
 exact b1.trans (RW hs h1 f _ _ _ _ _ b1.at' h)
theorem H2 {α:Type}{one:Bs→Res α}(h1:Tk one){f:Nat}:Tk (Uc one f):=fun s u a u' hu h=>by
 unfold Uc at h
 split at h
 ·rename_i hc;cases h;exact .adv hu hc (by decide)
 ·obtain⟨_,u1,h1',h⟩:=bind_ok h
  obtain⟨_,u2,h2,h⟩:=bind_ok h
  cases h
  have b1:=Va (by decide) h1 _ _ _ _ hu h1'
  exact b1.trans (Qm (by decide) _ _ _ _ b1.at' h2).beq
theorem M1 {α:Type}{one:Bs→Res α}(h1:Tk one):∀f l,Tk (ZU one f l)
 |0,_=>fun _ _ _ _ _ h=>by simp [ZU]at h
 |f+1,l=>fun s u a u' hu h=>by
  simp only[ZU]at h
  split at h
  ·rename_i hc;cases h;exact .adv hu hc (by decide)
  ·obtain⟨y,u1,h2,h⟩:=bind_ok h
   have b1:=h1 _ _ _ _ hu h2
   exact b1.trans (M1 h1 f _ _ _ _ _ b1.at' h).beq
structure TkE (f:Nat):Prop where
 e:Tk (Z9 f)
 r:∀n,Tk (JI f n)
 l:∀n x,Xv (Ji f n x)
 u:Tk (ZE f)
 p:Tk (Yb f)
theorem Of:∀f,TkE f
 |0=>⟨fun _ _ _ _ _ h=>by simp [Z9]at h,fun _ _ _ _ _ _ h=>by simp [JI]at h,fun _ _ _ _ _ _ _ h=>by simp [Ji]at h,fun _ _ _ _ _ h=>by simp [ZE]at h,fun _ _ _ _ _ h=>by simp [Yb]at h⟩
 |f+1=>by
  have ih:=Of f
  refine⟨?_,?_,?_,?_,?_⟩
  ·intro s u a u' hu h
   simp only[Z9]at h
   obtain⟨x,u1,h1,h⟩:=bind_ok h
   have b1:=ih.r _ _ _ _ _ hu h1
   split at h
   ·rename_i hc
    obtain⟨y,u2,h2,h⟩:=bind_ok h
    obtain⟨_,u3,h3,h⟩:=bind_ok h
    obtain⟨z,u4,h4,h⟩:=bind_ok h
    cases h
    have b2:=Beh.adv b1.at' hc (by decide)
    have b3:=ih.e _ _ _ _ b2.at' h2
    have b4:=Qm (by decide) _ _ _ _ b3.at' h3
    have b5:=ih.e _ _ _ _ b4.at' h4
    exact b1.trans (b2.trans (b3.trans (b4.trans b5.beq).beq).beq).beq
   ·cases h;exact b1
  ·intro n s u a u' hu h
   simp only[JI]at h
   split at h
   ·exact ih.u _ _ _ _ hu h
   ·obtain⟨x,u1,h1,h⟩:=bind_ok h
    have b1:=ih.r _ _ _ _ _ hu h1
    exact b1.trans (ih.l _ _ _ _ _ _ b1.at' h)
  ·intro n x s u a u' hu h
   simp only[Ji]at h
   split at h
   ·cases h;exact .refl hu
   ·rename_i k hk
    have b0:=Beh.adv hu rfl (WX hk)
    obtain⟨y,u1,h1,h⟩:=bind_ok h
    have b1:=ih.r _ _ _ _ _ b0.at' h1
    split at h
    ·cases h;exact(b0.trans b1.beq).beq
    ·exact(b0.trans (b1.trans (ih.l _ _ _ _ _ _ b1.at' h)).beq).beq
  ·intro s u a u' hu h
   simp only[ZE]at h
   split at h
   ·rename_i hc
    have b0:=Beh.adv hu hc (by decide)
    obtain⟨y,u1,h1,h⟩:=bind_ok h
    cases h
    exact b0.trans (ih.u _ _ _ _ b0.at' h1).beq
   ·split at h
    ·rename_i hc
     have b0:=Beh.adv hu hc (by decide)
     split at h
     ·obtain⟨y,u1,h1,h⟩:=bind_ok h
      cases h
      exact b0.trans (Wv _ _ _ _ b0.at' h1).beq
     ·obtain⟨y,u1,h1,h⟩:=bind_ok h
      cases h
      exact b0.trans (ih.u _ _ _ _ b0.at' h1).beq
    ·exact ih.p _ _ _ _ hu h
  ·intro s u a u' hu h
   simp only[Yb]at h
   split at h
   ·obtain⟨y,u1,h1,h⟩:=bind_ok h
    cases h
    exact Wv _ _ _ _ hu h1
   ·split at h
    ·rename_i hc
     have b0:=Beh.adv hu hc (by decide)
     obtain⟨y,u1,h1,h⟩:=bind_ok h
     obtain⟨_,u2,h2,h⟩:=bind_ok h
     cases h
     have b1:=ih.e _ _ _ _ b0.at' h1
     exact b0.trans (b1.trans (Qm (by decide) _ _ _ _ b1.at' h2).beq).beq
    ·obtain⟨y,u1,h1,h⟩:=bind_ok h
     have b1:=QM _ _ _ _ hu h1
     split at h
     ·rename_i hc
      have b2:=Beh.adv b1.at' hc (by decide)
      obtain⟨l,u2,h2,h⟩:=bind_ok h
      cases h
      exact b1.trans (b2.trans (H2 ih.e _ _ _ _ b2.at' h2).beq).beq
     ·cases h;exact b1
theorem Jk {f:Nat}:Tk (Z9 f):=(Of f).e
structure TkS (f:Nat):Prop where
 b:Tk (J4 f)
 s:Tk (Jc f)
theorem RV {f:Nat}{k:Int}:Tk fun u=>(Zb u).bind fun n u1=>(Qw [61] u1).bind fun _ u2=>(Z9 f u2).bind fun x u3=>(Qw [59] u3).bind fun _ u4=>.ok (Stmt.mk k n x [] []) u4:=fun s u a u' hu h=>by
 obtain⟨_,u1,h1,h⟩:=bind_ok h
 obtain⟨_,u2,h2,h⟩:=bind_ok h
 obtain⟨_,u3,h3,h⟩:=bind_ok h
 obtain⟨_,u4,h4,h⟩:=bind_ok h
 cases h
 have b1:=QM _ _ _ _ hu h1
 have b2:=Qm (by decide) _ _ _ _ b1.at' h2
 have b3:=Jk _ _ _ _ b2.at' h3
 have b4:=Qm (by decide) _ _ _ _ b3.at' h4
 exact b1.trans (b2.trans (b3.trans b4.beq).beq).beq
theorem OR:∀f,TkS f
 |0=>⟨fun _ _ _ _ _ h=>by simp [J4]at h,fun _ _ _ _ _ h=>by simp [Jc]at h⟩
 |f+1=>by
  have ih:=OR f
  refine⟨?_,?_⟩
  ·intro s u a u' hu h
   simp only[J4]at h
   obtain⟨_,u1,h1,h⟩:=bind_ok h
   have b1:=Qm (by decide) _ _ _ _ hu h1
   exact b1.trans (M1 ih.s _ _ _ _ _ _ b1.at' h).beq
  ·intro s u a u' hu h
   simp only[Jc]at h
   have key:∀{u a u'},At s u→((Qw [40] u).bind fun _ u1=>(Z9 f u1).bind fun x u2=>(Qw [41] u2).bind fun _ u3=>(J4 f u3).bind fun b u4=>Res.ok (x,b) u4)=.ok a u'→Beh s u u':=by
    intro u a u' hu h
    obtain⟨_,u1,h1,h⟩:=bind_ok h
    obtain⟨_,u2,h2,h⟩:=bind_ok h
    obtain⟨_,u3,h3,h⟩:=bind_ok h
    obtain⟨_,u4,h4,h⟩:=bind_ok h
    cases h
    have b1:=Qm (by decide) _ _ _ _ hu h1
    have b2:=Jk _ _ _ _ b1.at' h2
    have b3:=Qm (by decide) _ _ _ _ b2.at' h3
    have b4:=ih.b _ _ _ _ b3.at' h4
    exact b1.trans (b2.trans (b3.trans b4.beq).beq).beq
   split at h
   ·rename_i hc
    have b0:=Beh.adv hu hc (by decide)
    obtain⟨_,u1,h1,h⟩:=bind_ok h
    obtain⟨x,u2,h2,h⟩:=bind_ok h
    obtain⟨_,u3,h3,h⟩:=bind_ok h
    obtain⟨b,u4,h4,h⟩:=bind_ok h
    have b4:=key (a:=(x,b)) (u':=u4) b0.at' (by simp [h1,h2,h3,h4])
    split at h
    ·rename_i hc
     have b5:=Beh.adv b4.at' hc (by decide)
     obtain⟨_,u5,h5,h⟩:=bind_ok h
     cases h
     exact b0.trans (b4.trans (b5.trans (ih.b _ _ _ _ b5.at' h5).beq).beq).beq
    ·cases h;exact b0.trans b4.beq
   ·split at h
    ·rename_i hc
     have b0:=Beh.adv hu hc (by decide)
     obtain⟨_,u1,h1,h⟩:=bind_ok h
     obtain⟨x,u2,h2,h⟩:=bind_ok h
     obtain⟨_,u3,h3,h⟩:=bind_ok h
     obtain⟨b,u4,h4,h⟩:=bind_ok h
     cases h
     have b4:=key (a:=(x,b)) (u':=u') b0.at' (by simp only[h1,h2,h3,h4,Qe])
     exact b0.trans b4.beq
    ·split at h
     ·rename_i hc
      have b0:=Beh.adv hu hc (by decide)
      obtain⟨_,u1,h1,h⟩:=bind_ok h
      obtain⟨_,u2,h2,h⟩:=bind_ok h
      cases h
      have b1:=Jk _ _ _ _ b0.at' h1
      exact b0.trans (b1.trans (Qm (by decide) _ _ _ _ b1.at' h2).beq).beq
     ·split at h
      ·rename_i hc
       have b0:=Beh.adv hu hc (by decide)
       exact b0.trans (RV _ _ _ _ b0.at' h).beq
      ·exact RV _ _ _ _ hu h
theorem Hs {f:Nat}:Tk (V4 f):=fun s u a u' hu h=>by
 obtain⟨_,u1,h1,h⟩:=bind_ok h
 obtain⟨_,u2,h2,h⟩:=bind_ok h
 obtain⟨_,u3,h3,h⟩:=bind_ok h
 obtain⟨_,u4,h4,h⟩:=bind_ok h
 obtain⟨_,u5,h5,h⟩:=bind_ok h
 cases h
 have b1:=Qm (by decide) _ _ _ _ hu h1
 have b2:=QM _ _ _ _ b1.at' h2
 have b3:=Qm (by decide) _ _ _ _ b2.at' h3
 have b4:=H2 QM _ _ _ _ b3.at' h4
 have b5:=(OR f).b _ _ _ _ b4.at' h5
 exact b1.trans (b2.trans (b3.trans (b4.trans b5.beq).beq).beq).beq
theorem U0 {α β:Type}{p:Bs→Res α}{k:α→Bs→Res β}(hp:Tk p)(hk:∀a,Xv (k a)):Tk fun u=>(p u).bind k:=fun s u a u' hu h=>by
 obtain⟨x,u1,h1,h⟩:=bind_ok h
 have b1:=hp _ _ _ _ hu h1
 exact b1.trans (hk _ _ _ _ _ b1.at' h)
theorem QZ {α β:Type}{p:Bs→Res α}{k:α→Bs→Res β}(hp:Xv p)(hk:∀a,Xv (k a)):Xv fun u=>(p u).bind k:=fun s u a u' hu h=>by
 obtain⟨x,u1,h1,h⟩:=bind_ok h
 have b1:=hp _ _ _ _ hu h1
 exact b1.trans (hk _ _ _ _ _ b1.at' h)
theorem Tk.tk0 {α:Type}{p:Bs→Res α}(h:Tk p):Xv p:=fun s u a u' hu e=>(h s u a u' hu e).beq
theorem Vh {α:Type}{a:α}:Xv fun u=>.ok a u:=fun s u a u' hu h=>by cases h;exact .refl hu
theorem JD {α:Type}{w:Bs}{d:α}{p:Bs→Res α}(hw:w≠[])(hp:Xv p):Xv (YR w d p):=fun s u a u' hu h=>by
 unfold YR at h
 split at h
 ·rename_i hc
  have b0:=Beh.adv hu hc hw
  exact(b0.trans (hp _ _ _ _ b0.at' h)).beq
 ·cases h;exact .refl hu
theorem WB {α:Type}{w:Bs}{one:Bs→Res α}(hw:w≠[])(h1:Xv one):∀f l,Xv (JS w one f l)
 |0,_=>fun _ _ _ _ _ h=>by simp [JS]at h
 |f+1,l=>fun s u a u' hu h=>by
  simp only[JS]at h
  split at h
  ·rename_i hc
   have b0:=Beh.adv hu hc hw
   obtain⟨y,u1,h2,h⟩:=bind_ok h
   have b1:=h1 _ _ _ _ b0.at' h2
   exact(b0.trans (b1.trans (WB hw h1 f _ _ _ _ _ b1.at' h))).beq
  ·cases h;exact .refl hu
theorem O2:Tk KD:=U0 QM fun n s u a u' hu h=>by
 repeat' split at h
 all_goals first
  |cases h;done
  |(rename_i hc
    have b0:=Beh.adv hu hc (by decide)
    obtain⟨y,u1,h1,h⟩:=bind_ok h
    cases h
    exact(b0.trans (Im _ _ _ _ b0.at' h1).beq).beq)
theorem BB {f:Nat}:Tk (XU f):=U0 (Va (by decide) O2) fun _=>Vh
theorem WU {f:Nat}:Tk (Xz f):=U0 QM fun _=>QZ (Qm (by decide)).tk0 fun _=>QZ Jk.tk0 fun _=>Vh
theorem KF:Tk Wx:=U0 QM fun _=>QZ (Qm (by decide)).tk0 fun _=>QZ Im.tk0 fun _=>Vh
theorem Oh:Xv Uh:=fun s u a u' hu h=>by
 unfold Uh at h
 split at h
 ·rename_i hc;cases h;exact(Beh.adv hu hc (by decide)).beq
 ·split at h
  ·rename_i hc;cases h;exact(Beh.adv hu hc (by decide)).beq
  ·cases h;exact .refl hu
theorem RX {f:Nat}:Tk (If f):=U0 QM fun _=>QZ Oh fun _=>QZ (JD (by decide) BB.tk0) fun _=>QZ (JD (by decide) Im.tk0) fun _=>QZ (Qm (by decide)).tk0 fun _=>Vh
theorem tk_chan:Tk OX:=U0 QM fun _ s u a u' hu h=>by
 split at h
 ·rename_i hc;cases h;exact(Beh.adv hu hc (by decide)).beq
 ·obtain⟨y,u1,h1,h⟩:=bind_ok h
  cases h
  exact(Qm (by decide) _ _ _ _ hu h1).beq
theorem Tj {f:Nat}:Tk (WQ f):=
 U0 QM fun _=>QZ (Qm (by decide)).tk0 fun _=>QZ QM.tk0 fun _=>QZ (JD (by decide) BB.tk0) fun _=>QZ (JD (by decide) Jk.tk0) fun _=>
 QZ (JD (by decide) tk_chan.tk0) fun _=>QZ (JD (by decide) (Va (by decide) WU).tk0) fun _=>QZ (JD (by decide) (Va (by decide) KF).tk0) fun _=>
 QZ (JD (by decide) Im.tk0) fun _=>QZ (JD (by decide) Im.tk0) fun _=>QZ (Qm (by decide)).tk0 fun _=>Vh
theorem G9 {f:Nat}:Tk (WP f):=
 U0 QM fun _=>QZ (Qm (by decide)).tk0 fun _=>QZ QM.tk0 fun _=>QZ (Qm (by decide)).tk0 fun _=>
 QZ (WB (by decide) RX.tk0 _ _) fun _=>QZ (WB (by decide) Tj.tk0 _ _) fun _=>QZ (Qm (by decide)).tk0 fun _=>Vh
theorem RU:Tk Ie:=
 U0 QM fun _=>QZ (Qm (by decide)).tk0 fun _=>QZ Im.tk0 fun _=>QZ (Qm (by decide)).tk0 fun _=>QZ Im.tk0 fun _=>QZ (Qm (by decide)).tk0 fun _=>QZ Im.tk0 fun _=>Vh
theorem PE {f:Nat}{b g:Bool}:Tk (ZF f b g):=U0 (Va (by decide) QM) fun _=>Vh
theorem Qx {sz m:Nat}{cs:List AV}{t:Option Nat}:VX sz (.slice sz m cs t)=some (m,cs):=by simp [VX]
theorem ZP (z:List Value)(v:AV){sz:Nat}(h:v.cells.length=sz)(hz:z.length=sz):UG sz 1 z [(0,v)]=some v.cells:=by
 simp only[UG,cJ,dH,Ux,Nat.zero_mul]
 rw[fC ⟨h,by simp⟩]
 simp [V7]
section
variable (G:Nat→Option (List AV))
theorem Pl {α:Type}{A:Q2}{r:Nat}{s u sep:Bs}{lo:Bool}{one:Bs→Res α}{f:Nat}{big:α→Bool}{enc:α→AV}{fn:FuncId}{first cap:List AV}(hr:A r=some (rd s u lo))(hu:At s u)(hs:s.length≤20000)(hsep:sep≠[])(hf:u.length<f)
 (h1:∀A' u' lo',QJ r A A'→A' r=some (rd s u' lo')→At s u'→u'.length≤u.length→Qq Tryz.prog G fn (first++cap) A' (J0 r s A' lo' big enc (one u')))(htk:Tk one)(hsz:∀a,(enc a).cells.length=1)(hone:∀a,(enc a).cells.all AV.one=true):
 Qq Tryz.prog G 170 [.ptr r 0,.str sep,.func (.func fn) first cap] A (J0 r s A lo (fun l=>l.any big) (Qr 1 fun a=>(enc a).cells) (J2 sep one f u)):=by
 refine Q4 l170 (fE rfl) ?_
 simp only[Dd,QI,seval]
 refine Y5 (by simpa using h1 A u lo (.refl _ _) hr hu (fG _)) (Ve.refl _) fun x u1 hx=> ?_
 have b1:=htk _ _ _ _ hu hx
 simp only[QI,seval]
 refine QU (cs:=(enc x).cells) (ZP _ _ (hsz x) (by decide)) fun t ht=> ?_
 obtain⟨htr,ht0⟩:=Q8 ht
 simp only[QI,seval]
 refine Qt (fun n env ds A'=>∃(l:List α) (u':Bs) (t:Nat),n=u'.length∧env 0=.ptr r 0∧env 1=.str sep∧env 2=.func (.func fn) first cap∧env 7=.slice 1 l.length (l.flatMap fun a=>(enc a).cells) (some t)∧ds=[]∧At s u'∧u'.length≤u.length∧
  l.length+u'.length≤s.length∧t≠r∧A t=none∧A' r=some (rd s u' (lo||l.any big))∧A' t=some .tip∧QJ r A A'∧∃f',u'.length<f'∧ZT sep one f [x] u1=ZT sep one f' l u') u1.length
  ⟨[x],u1,t,rfl,rfl,rfl,rfl,by simp [Jf],rfl,b1.at',b1.beq.le,by have:=b1.lt;have:=hu.le;simp;omega,htr,ht0,by simp [Q2.upd,htr.symm],by simp,((QJ.refl _ _).at _).tip htr ht,f,by have:=b1.lt;omega,rfl⟩ ?_
 rintro n env ds A' ⟨l,u',t,rfl,h0,h1',h2,h7,rfl,hu',hle,hlen,htr,ht0,hr',ht',hov,f',hf',hR⟩
 obtain⟨f',rfl⟩:∃m,f'=m+1:=⟨f' - 1,by omega⟩
 simp only[h0,h1',h2,h7,QI,seval]
 refine Q3 (LG G hr' hu' (by omega)) ?_
 rw[hR]
 by_cases hc:Qc u'=sep
 ·have b2:=Beh.adv hu' hc hsep
  simp only[fA hc,fC hc,h0,h1',h2,h7,ZT,QI,seval]
  refine Y5 (by simpa using h1 _ (adv u') _ (hov.at _) (Q0 ..) b2.at' (by have:=b2.lt;omega)) (hov.at _).wk0 fun y u2 hy=> ?_
  have b3:=htk _ _ _ _ b2.at' hy
  simp only[h7,QI,seval]
  refine QU (cs:=(enc y).cells) (ZP _ _ (hsz y) (by decide)) fun t2 ht2=> ?_
  obtain⟨e1,ht2⟩:=Q8 ht2
  have e2:t2≠t:=(Q6 ht' ht2).symm
  have hl3:=b3.lt
  have hl2:=b2.lt
  simp only[h7,Qx,Yt,QI,seval]
  refine⟨by simp [Q2.upd,htr,e2.symm,ht'],by omega,hone y,fun t3 ht3=> ?_⟩
  obtain⟨e3,ht3⟩:=Q8 ht3
  obtain⟨e4,ht3⟩:=Q8 ht3
  have e5:t3≠t:=(Q6 ht' ht3).symm
  refine⟨u2.length,by omega,l++[y],u2,t3,rfl,h0,h1',h2,by simp,b3.at',by omega,by simp;omega,e4,hov.gone e4 ht3,?_,by simp,?_,f',by omega,by simp only[hy,Qe]⟩
  ·simp [Q2.upd,htr.symm,e1.symm,e4.symm,dK]
  ·exact(((((hov.at _).tip e1 (by simpa[Q2.upd,e1]using ht2)).set ht0 (by simp))).set (hov.gone e4 ht3) (by simp))
 ·simp only[fB hc,fD hc,h0,h1',h2,h7,ZT,QI,seval]
  exact Wc J9 (hov.wk hr' (by intros;simp [rd,Zs]))
theorem n223 {α:Type}{A:Q2}{r:Nat}{s u sep:Bs}{lo:Bool}{one:Bs→Res α}{f:Nat}{big:α→Bool}{enc:α→AV}{fn:FuncId}{first cap:List AV}(hr:A r=some (rd s u lo))(hu:At s u)(hs:s.length≤20000)(hsep:sep≠[])(hf:u.length<f)
 (h1:∀A' u' lo',QJ r A A'→A' r=some (rd s u' lo')→At s u'→u'.length≤u.length→Qq Tryz.prog G fn (first++cap) A' (J0 r s A' lo' big enc (one u')))(htk:Tk one)(hsz:∀a,(enc a).cells.length=5)(hone:∀a,(enc a).cells.all AV.one=true):
 Qq Tryz.prog G 223 [.ptr r 0,.str sep,.func (.func fn) first cap] A (J0 r s A lo (fun l=>l.any big) (Qr 5 fun a=>(enc a).cells) (J2 sep one f u)):=by
 refine Q4 l223 (fE rfl) ?_
 simp only[EJ,QI,seval]
 refine Y5 (by simpa using h1 A u lo (.refl _ _) hr hu (fG _)) (Ve.refl _) fun x u1 hx=> ?_
 have b1:=htk _ _ _ _ hu hx
 simp only[QI,seval]
 refine QU (cs:=(enc x).cells) (ZP _ _ (hsz x) (by decide)) fun t ht=> ?_
 obtain⟨htr,ht0⟩:=Q8 ht
 simp only[QI,seval]
 refine Qt (fun n env ds A'=>∃(l:List α) (u':Bs) (t:Nat),n=u'.length∧env 0=.ptr r 0∧env 1=.str sep∧env 2=.func (.func fn) first cap∧env 7=.slice 5 l.length (l.flatMap fun a=>(enc a).cells) (some t)∧ds=[]∧At s u'∧u'.length≤u.length∧
  l.length+u'.length≤s.length∧t≠r∧A t=none∧A' r=some (rd s u' (lo||l.any big))∧A' t=some .tip∧QJ r A A'∧∃f',u'.length<f'∧ZT sep one f [x] u1=ZT sep one f' l u') u1.length
  ⟨[x],u1,t,rfl,rfl,rfl,rfl,by simp [Jf],rfl,b1.at',b1.beq.le,by have:=b1.lt;have:=hu.le;simp;omega,htr,ht0,by simp [Q2.upd,htr.symm],by simp,((QJ.refl _ _).at _).tip htr ht,f,by have:=b1.lt;omega,rfl⟩ ?_
 rintro n env ds A' ⟨l,u',t,rfl,h0,h1',h2,h7,rfl,hu',hle,hlen,htr,ht0,hr',ht',hov,f',hf',hR⟩
 obtain⟨f',rfl⟩:∃m,f'=m+1:=⟨f' - 1,by omega⟩
 simp only[h0,h1',h2,h7,QI,seval]
 refine Q3 (LG G hr' hu' (by omega)) ?_
 rw[hR]
 by_cases hc:Qc u'=sep
 ·have b2:=Beh.adv hu' hc hsep
  simp only[fA hc,fC hc,h0,h1',h2,h7,ZT,QI,seval]
  refine Y5 (by simpa using h1 _ (adv u') _ (hov.at _) (Q0 ..) b2.at' (by have:=b2.lt;omega)) (hov.at _).wk0 fun y u2 hy=> ?_
  have b3:=htk _ _ _ _ b2.at' hy
  simp only[h7,QI,seval]
  refine QU (cs:=(enc y).cells) (ZP _ _ (hsz y) (by decide)) fun t2 ht2=> ?_
  obtain⟨e1,ht2⟩:=Q8 ht2
  have e2:t2≠t:=(Q6 ht' ht2).symm
  have hl3:=b3.lt
  have hl2:=b2.lt
  simp only[h7,Qx,Yt,QI,seval]
  refine⟨by simp [Q2.upd,htr,e2.symm,ht'],by omega,hone y,fun t3 ht3=> ?_⟩
  obtain⟨e3,ht3⟩:=Q8 ht3
  obtain⟨e4,ht3⟩:=Q8 ht3
  have e5:t3≠t:=(Q6 ht' ht3).symm
  refine⟨u2.length,by omega,l++[y],u2,t3,rfl,h0,h1',h2,by simp,b3.at',by omega,by simp;omega,e4,hov.gone e4 ht3,?_,by simp,?_,f',by omega,by simp only[hy,Qe]⟩
  ·simp [Q2.upd,htr.symm,e1.symm,e4.symm,dK]
  ·exact(((((hov.at _).tip e1 (by simpa[Q2.upd,e1]using ht2)).set ht0 (by simp))).set (hov.gone e4 ht3) (by simp))
 ·simp only[fB hc,fD hc,h0,h1',h2,h7,ZT,QI,seval]
  exact Wc J9 (hov.wk hr' (by intros;simp [rd,Zs]))
theorem n225 {α:Type}{A:Q2}{r:Nat}{s u sep:Bs}{lo:Bool}{one:Bs→Res α}{f:Nat}{big:α→Bool}{enc:α→AV}{fn:FuncId}{first cap:List AV}(hr:A r=some (rd s u lo))(hu:At s u)(hs:s.length≤20000)(hsep:sep≠[])(hf:u.length<f)
 (h1:∀A' u' lo',QJ r A A'→A' r=some (rd s u' lo')→At s u'→u'.length≤u.length→Qq Tryz.prog G fn (first++cap) A' (J0 r s A' lo' big enc (one u')))(htk:Tk one)(hsz:∀a,(enc a).cells.length=2)(hone:∀a,(enc a).cells.all AV.one=true):
 Qq Tryz.prog G 225 [.ptr r 0,.str sep,.func (.func fn) first cap] A (J0 r s A lo (fun l=>l.any big) (Qr 2 fun a=>(enc a).cells) (J2 sep one f u)):=by
 refine Q4 l225 (fE rfl) ?_
 simp only[EH,QI,seval]
 refine Y5 (by simpa using h1 A u lo (.refl _ _) hr hu (fG _)) (Ve.refl _) fun x u1 hx=> ?_
 have b1:=htk _ _ _ _ hu hx
 simp only[QI,seval]
 refine QU (cs:=(enc x).cells) (ZP _ _ (hsz x) (by decide)) fun t ht=> ?_
 obtain⟨htr,ht0⟩:=Q8 ht
 simp only[QI,seval]
 refine Qt (fun n env ds A'=>∃(l:List α) (u':Bs) (t:Nat),n=u'.length∧env 0=.ptr r 0∧env 1=.str sep∧env 2=.func (.func fn) first cap∧env 7=.slice 2 l.length (l.flatMap fun a=>(enc a).cells) (some t)∧ds=[]∧At s u'∧u'.length≤u.length∧
  l.length+u'.length≤s.length∧t≠r∧A t=none∧A' r=some (rd s u' (lo||l.any big))∧A' t=some .tip∧QJ r A A'∧∃f',u'.length<f'∧ZT sep one f [x] u1=ZT sep one f' l u') u1.length
  ⟨[x],u1,t,rfl,rfl,rfl,rfl,by simp [Jf],rfl,b1.at',b1.beq.le,by have:=b1.lt;have:=hu.le;simp;omega,htr,ht0,by simp [Q2.upd,htr.symm],by simp,((QJ.refl _ _).at _).tip htr ht,f,by have:=b1.lt;omega,rfl⟩ ?_
 rintro n env ds A' ⟨l,u',t,rfl,h0,h1',h2,h7,rfl,hu',hle,hlen,htr,ht0,hr',ht',hov,f',hf',hR⟩
 obtain⟨f',rfl⟩:∃m,f'=m+1:=⟨f' - 1,by omega⟩
 simp only[h0,h1',h2,h7,QI,seval]
 refine Q3 (LG G hr' hu' (by omega)) ?_
 rw[hR]
 by_cases hc:Qc u'=sep
 ·have b2:=Beh.adv hu' hc hsep
  simp only[fA hc,fC hc,h0,h1',h2,h7,ZT,QI,seval]
  refine Y5 (by simpa using h1 _ (adv u') _ (hov.at _) (Q0 ..) b2.at' (by have:=b2.lt;omega)) (hov.at _).wk0 fun y u2 hy=> ?_
  have b3:=htk _ _ _ _ b2.at' hy
  simp only[h7,QI,seval]
  refine QU (cs:=(enc y).cells) (ZP _ _ (hsz y) (by decide)) fun t2 ht2=> ?_
  obtain⟨e1,ht2⟩:=Q8 ht2
  have e2:t2≠t:=(Q6 ht' ht2).symm
  have hl3:=b3.lt
  have hl2:=b2.lt
  simp only[h7,Qx,Yt,QI,seval]
  refine⟨by simp [Q2.upd,htr,e2.symm,ht'],by omega,hone y,fun t3 ht3=> ?_⟩
  obtain⟨e3,ht3⟩:=Q8 ht3
  obtain⟨e4,ht3⟩:=Q8 ht3
  have e5:t3≠t:=(Q6 ht' ht3).symm
  refine⟨u2.length,by omega,l++[y],u2,t3,rfl,h0,h1',h2,by simp,b3.at',by omega,by simp;omega,e4,hov.gone e4 ht3,?_,by simp,?_,f',by omega,by simp only[hy,Qe]⟩
  ·simp [Q2.upd,htr.symm,e1.symm,e4.symm,dK]
  ·exact(((((hov.at _).tip e1 (by simpa[Q2.upd,e1]using ht2)).set ht0 (by simp))).set (hov.gone e4 ht3) (by simp))
 ·simp only[fB hc,fD hc,h0,h1',h2,h7,ZT,QI,seval]
  exact Wc J9 (hov.wk hr' (by intros;simp [rd,Zs]))
theorem n252 {α:Type}{A:Q2}{r:Nat}{s u sep:Bs}{lo:Bool}{one:Bs→Res α}{f:Nat}{big:α→Bool}{enc:α→AV}{fn:FuncId}{first cap:List AV}(hr:A r=some (rd s u lo))(hu:At s u)(hs:s.length≤20000)(hsep:sep≠[])(hf:u.length<f)
 (h1:∀A' u' lo',QJ r A A'→A' r=some (rd s u' lo')→At s u'→u'.length≤u.length→Qq Tryz.prog G fn (first++cap) A' (J0 r s A' lo' big enc (one u')))(htk:Tk one)(hsz:∀a,(enc a).cells.length=1)(hone:∀a,(enc a).cells.all AV.one=true):
 Qq Tryz.prog G 252 [.ptr r 0,.str sep,.func (.func fn) first cap] A (J0 r s A lo (fun l=>l.any big) (Qr 1 fun a=>(enc a).cells) (J2 sep one f u)):=by
 refine Q4 l252 (fE rfl) ?_
 simp only[Eo,QI,seval]
 refine Y5 (by simpa using h1 A u lo (.refl _ _) hr hu (fG _)) (Ve.refl _) fun x u1 hx=> ?_
 have b1:=htk _ _ _ _ hu hx
 simp only[QI,seval]
 refine QU (cs:=(enc x).cells) (ZP _ _ (hsz x) (by decide)) fun t ht=> ?_
 obtain⟨htr,ht0⟩:=Q8 ht
 simp only[QI,seval]
 refine Qt (fun n env ds A'=>∃(l:List α) (u':Bs) (t:Nat),n=u'.length∧env 0=.ptr r 0∧env 1=.str sep∧env 2=.func (.func fn) first cap∧env 7=.slice 1 l.length (l.flatMap fun a=>(enc a).cells) (some t)∧ds=[]∧At s u'∧u'.length≤u.length∧
  l.length+u'.length≤s.length∧t≠r∧A t=none∧A' r=some (rd s u' (lo||l.any big))∧A' t=some .tip∧QJ r A A'∧∃f',u'.length<f'∧ZT sep one f [x] u1=ZT sep one f' l u') u1.length
  ⟨[x],u1,t,rfl,rfl,rfl,rfl,by simp [Jf],rfl,b1.at',b1.beq.le,by have:=b1.lt;have:=hu.le;simp;omega,htr,ht0,by simp [Q2.upd,htr.symm],by simp,((QJ.refl _ _).at _).tip htr ht,f,by have:=b1.lt;omega,rfl⟩ ?_
 rintro n env ds A' ⟨l,u',t,rfl,h0,h1',h2,h7,rfl,hu',hle,hlen,htr,ht0,hr',ht',hov,f',hf',hR⟩
 obtain⟨f',rfl⟩:∃m,f'=m+1:=⟨f' - 1,by omega⟩
 simp only[h0,h1',h2,h7,QI,seval]
 refine Q3 (LG G hr' hu' (by omega)) ?_
 rw[hR]
 by_cases hc:Qc u'=sep
 ·have b2:=Beh.adv hu' hc hsep
  simp only[fA hc,fC hc,h0,h1',h2,h7,ZT,QI,seval]
  refine Y5 (by simpa using h1 _ (adv u') _ (hov.at _) (Q0 ..) b2.at' (by have:=b2.lt;omega)) (hov.at _).wk0 fun y u2 hy=> ?_
  have b3:=htk _ _ _ _ b2.at' hy
  simp only[h7,QI,seval]
  refine QU (cs:=(enc y).cells) (ZP _ _ (hsz y) (by decide)) fun t2 ht2=> ?_
  obtain⟨e1,ht2⟩:=Q8 ht2
  have e2:t2≠t:=(Q6 ht' ht2).symm
  have hl3:=b3.lt
  have hl2:=b2.lt
  simp only[h7,Qx,Yt,QI,seval]
  refine⟨by simp [Q2.upd,htr,e2.symm,ht'],by omega,hone y,fun t3 ht3=> ?_⟩
  obtain⟨e3,ht3⟩:=Q8 ht3
  obtain⟨e4,ht3⟩:=Q8 ht3
  have e5:t3≠t:=(Q6 ht' ht3).symm
  refine⟨u2.length,by omega,l++[y],u2,t3,rfl,h0,h1',h2,by simp,b3.at',by omega,by simp;omega,e4,hov.gone e4 ht3,?_,by simp,?_,f',by omega,by simp only[hy,Qe]⟩
  ·simp [Q2.upd,htr.symm,e1.symm,e4.symm,dK]
  ·exact(((((hov.at _).tip e1 (by simpa[Q2.upd,e1]using ht2)).set ht0 (by simp))).set (hov.gone e4 ht3) (by simp))
 ·simp only[fB hc,fD hc,h0,h1',h2,h7,ZT,QI,seval]
  exact Wc J9 (hov.wk hr' (by intros;simp [rd,Zs]))
theorem n284 {α:Type}{A:Q2}{r:Nat}{s u sep:Bs}{lo:Bool}{one:Bs→Res α}{f:Nat}{big:α→Bool}{enc:α→AV}{fn:FuncId}{first cap:List AV}(hr:A r=some (rd s u lo))(hu:At s u)(hs:s.length≤20000)(hsep:sep≠[])(hf:u.length<f)
 (h1:∀A' u' lo',QJ r A A'→A' r=some (rd s u' lo')→At s u'→u'.length≤u.length→Qq Tryz.prog G fn (first++cap) A' (J0 r s A' lo' big enc (one u')))(htk:Tk one)(hsz:∀a,(enc a).cells.length=1)(hone:∀a,(enc a).cells.all AV.one=true):
 Qq Tryz.prog G 284 [.ptr r 0,.str sep,.func (.func fn) first cap] A (J0 r s A lo (fun l=>l.any big) (Qr 1 fun a=>(enc a).cells) (J2 sep one f u)):=by
 refine Q4 l284 (fE rfl) ?_
 simp only[Ee,QI,seval]
 refine Y5 (by simpa using h1 A u lo (.refl _ _) hr hu (fG _)) (Ve.refl _) fun x u1 hx=> ?_
 have b1:=htk _ _ _ _ hu hx
 simp only[QI,seval]
 refine QU (cs:=(enc x).cells) (ZP _ _ (hsz x) (by decide)) fun t ht=> ?_
 obtain⟨htr,ht0⟩:=Q8 ht
 simp only[QI,seval]
 refine Qt (fun n env ds A'=>∃(l:List α) (u':Bs) (t:Nat),n=u'.length∧env 0=.ptr r 0∧env 1=.str sep∧env 2=.func (.func fn) first cap∧env 7=.slice 1 l.length (l.flatMap fun a=>(enc a).cells) (some t)∧ds=[]∧At s u'∧u'.length≤u.length∧
  l.length+u'.length≤s.length∧t≠r∧A t=none∧A' r=some (rd s u' (lo||l.any big))∧A' t=some .tip∧QJ r A A'∧∃f',u'.length<f'∧ZT sep one f [x] u1=ZT sep one f' l u') u1.length
  ⟨[x],u1,t,rfl,rfl,rfl,rfl,by simp [Jf],rfl,b1.at',b1.beq.le,by have:=b1.lt;have:=hu.le;simp;omega,htr,ht0,by simp [Q2.upd,htr.symm],by simp,((QJ.refl _ _).at _).tip htr ht,f,by have:=b1.lt;omega,rfl⟩ ?_
 rintro n env ds A' ⟨l,u',t,rfl,h0,h1',h2,h7,rfl,hu',hle,hlen,htr,ht0,hr',ht',hov,f',hf',hR⟩
 obtain⟨f',rfl⟩:∃m,f'=m+1:=⟨f' - 1,by omega⟩
 simp only[h0,h1',h2,h7,QI,seval]
 refine Q3 (LG G hr' hu' (by omega)) ?_
 rw[hR]
 by_cases hc:Qc u'=sep
 ·have b2:=Beh.adv hu' hc hsep
  simp only[fA hc,fC hc,h0,h1',h2,h7,ZT,QI,seval]
  refine Y5 (by simpa using h1 _ (adv u') _ (hov.at _) (Q0 ..) b2.at' (by have:=b2.lt;omega)) (hov.at _).wk0 fun y u2 hy=> ?_
  have b3:=htk _ _ _ _ b2.at' hy
  simp only[h7,QI,seval]
  refine QU (cs:=(enc y).cells) (ZP _ _ (hsz y) (by decide)) fun t2 ht2=> ?_
  obtain⟨e1,ht2⟩:=Q8 ht2
  have e2:t2≠t:=(Q6 ht' ht2).symm
  have hl3:=b3.lt
  have hl2:=b2.lt
  simp only[h7,Qx,Yt,QI,seval]
  refine⟨by simp [Q2.upd,htr,e2.symm,ht'],by omega,hone y,fun t3 ht3=> ?_⟩
  obtain⟨e3,ht3⟩:=Q8 ht3
  obtain⟨e4,ht3⟩:=Q8 ht3
  have e5:t3≠t:=(Q6 ht' ht3).symm
  refine⟨u2.length,by omega,l++[y],u2,t3,rfl,h0,h1',h2,by simp,b3.at',by omega,by simp;omega,e4,hov.gone e4 ht3,?_,by simp,?_,f',by omega,by simp only[hy,Qe]⟩
  ·simp [Q2.upd,htr.symm,e1.symm,e4.symm,dK]
  ·exact(((((hov.at _).tip e1 (by simpa[Q2.upd,e1]using ht2)).set ht0 (by simp))).set (hov.gone e4 ht3) (by simp))
 ·simp only[fB hc,fD hc,h0,h1',h2,h7,ZT,QI,seval]
  exact Wc J9 (hov.wk hr' (by intros;simp [rd,Zs]))
end
open Go.RowKit
theorem T5 (w:World)(k:Nat)(os:Array Obj):Below w.heap.size w (Sort.grow (w.drewN k) os):=
 ⟨rfl,rfl,rfl,by simp [Sort.grow,World.drewN],fun j hj=>by simp only[Sort.grow,World.drewN];rw[Array.getElem?_append_left (by simpa using hj)]⟩
structure Gl (G:Nat→Option (List AV)):Prop where
 syn:∃t v,G 4=some [.iface t v]
 rng:∃t v,G 5=some [.iface t v]
 pow:G 1=some (Lib.pow10Tab.map fun z=>.raw (.int .u64 z))
theorem Gl.cell {G:Nat→Option (List AV)}{κ:Kn}{A:Q2}{w:World}{g:Nat}(h:∃t v,G g=some [.iface t v])(hr:Rel G κ A w):∃ev,w.cell? ⟨g,0,none⟩=some ev∧∃te pe,ev=.iface te pe:=by
 obtain⟨t,v,hg⟩:=h
 have h1:=hr.glob g _ hg
 simp only[Zm]at h1
 obtain⟨⟨x,h2,h3⟩,_⟩:=h1
 simp only[Qd]at h3
 obtain⟨y,rfl,_⟩:=h3
 exact⟨_,hr.imm _ _ _ h2,_,_,rfl⟩
theorem L5 {κ:Kn}{A:Q2}{w:World}{G:Nat→Option (List AV)}(hr:Rel G κ A w){b:Nat}:∀(l:List Value) (o:Nat),Zm κ b (l.map .raw) o→∀i (h:i<l.length),w.cell? ⟨b,o+i,none⟩=some l[i]
 |[],_,_,i,h=>by simp at h
 |v::l,o,h,i,hi=>by
  simp only[cJ,Zm]at h
  obtain⟨⟨x,h1,h2⟩,h3⟩:=h
  cases i with
  |zero=>rw[Js h2]at h1;exact hr.imm _ _ _ h1
  |succ i=>
   have:=L5 hr l (o+1) h3 i (by simpa using hi)
   rw[show o+(i+1)=o+1+i from by omega]
   simpa using this
theorem Gl.tab {G:Nat→Option (List AV)}(hG:Gl G){κ:Kn}{A:Q2}{w:World}(hr:Rel G κ A w):Lib.TabIs Tryz.prog w "internal/strconv.uint64pow10" .u64 Lib.pow10Tab:=by
 obtain⟨⟨a,el,fr,h1,h2⟩,_⟩:=hr.gsz 1 _ hG.pow
 have h3:=hr.glob 1 _ hG.pow
 have e:(Lib.pow10Tab.map fun z=>AV.raw (.int .u64 z))=(Lib.pow10Tab.map fun z=>Value.int .u64 z).map AV.raw:=by simp
 rw[e]at h3
 have h4:=L5 hr _ _ h3
 have hg:Tryz.prog.globalNamed "internal/strconv.uint64pow10" =some 1:=by kernel_rfl
 unfold Lib.TabIs World.var?
 simp only[hg,Option.bind_some,h1]
 congr 1
 apply dN.1
 have hl:a.toList.length=Lib.pow10Tab.length:=by simpa using h2
 apply List.ext_getElem
 ·simpa using hl
 ·intro i p q
  have:=h4 i (by simpa[hl]using p)
  simp only[World.cell?,h1,lN]at this
  simp only[Array.getElem_toList,List.getElem_map]at*
  rw[Array.getElem?_eq_getElem (by simpa using p)]at this
  simpa using this
section
variable {G:Nat→Option (List AV)}(hG:Gl G)
include hG
theorem FX (n:Int)(A:Q2)(h0: -9223372036854775808≤n)(h1:n≤9223372036854775807):Qz Tryz.prog G 107 [i64 n,i64 10] A (.str (Lib.itoa n)) A:=
 Uo (by kernel_rfl) fun κ w hr vs hvs=>by
  obtain⟨x,y,rfl,hx,hy⟩:=Um hvs
  rw[Js hx,Js hy]
  refine(Tryz.strconv_FormatInt_10 n h0 h1 w (hG.tab hr)).mono ?_
  rintro e w' ⟨rfl,k,os,rfl⟩
  exact⟨T5 w k os,_,rfl,by simp [Qd]⟩
def Fq (s:Bs)(o:Out):Prop:=∃n e,o=.ret (.tuple [i64 n,e])∧((e=.raw .nilIface∧Lib.parseIntB 64 s=.ok n)∨(e=.iface 285 (.iptr [])∧∀v,Lib.parseIntB 64 s≠ .ok v))
theorem FV (s:Bs)(A:Q2)(hs:s.length≤20000):Qq Tryz.prog G 245 [.str s,i64 10,i64 64] A (fun o A'=>Fq s o∧A'=A):=
 Ku (by kernel_rfl) fun κ w hr vs hvs=>by
  obtain⟨x,y,z,rfl,hx,hy,hz⟩:=SB hvs
  rw[VR hx,Js hy,Js hz]
  have hsz:(⟨s.toArray⟩:ByteArray).size=s.length:=by simp [ByteArray.size]
  rcases h:Lib.parseIntB 64 s with v|_|_
  ·refine(Tryz.strconv_ParseInt_10_at64_ok ⟨s.toArray⟩ (by rw[hsz];omega) v h w).mono ?_
   rintro e w' ⟨rfl,hw⟩
   refine⟨?_,.ret (.tuple [i64 v,.raw .nilIface]),⟨_,rfl,?_⟩,⟨v,_,rfl,.inl ⟨rfl,h⟩⟩,rfl⟩
   ·rcases hw with rfl|⟨t,rfl⟩
    ·exact .refl _ _
    ·exact⟨rfl,rfl,rfl,by rw[Lib.bytesWorld_size];omega,fun j hj=>Lib.bytesWorld_at_old w 5 t j hj⟩
   ·simp [Qd,Qi]
  ·obtain⟨ev,he1,he2⟩:=Gl.cell hG.syn hr
   refine(Tryz.strconv_ParseInt_10_at64_bad ⟨s.toArray⟩ (by rw[hsz];omega) (fun v e=>by have:=h.symm.trans e;cases this) (fun e=>by have:=h.symm.trans e;cases this) ev w he1 (.inr he2)).mono ?_
   rintro e w' ⟨N,rfl,_,_,hb⟩
   refine⟨hb,.ret (.tuple [i64 0,.iface 285 (.iptr [])]),⟨_,rfl,?_⟩,⟨0,_,rfl,.inr ⟨rfl,by rw[h];simp⟩⟩,rfl⟩
   simp only[Qd,Qi,Zm]
   exact⟨_,rfl,_,_,rfl,rfl,_,_,rfl,⟨_,rfl,_,_,rfl,trivial⟩,rfl⟩
  ·obtain⟨ev,he1,he2⟩:=Gl.cell hG.rng hr
   refine(Tryz.strconv_ParseInt_10_at64_range ⟨s.toArray⟩ (by rw[hsz];omega) h ev w he1 (.inr he2)).mono ?_
   rintro e w' ⟨N,rfl,_,_,hb⟩
   refine⟨hb,.ret (.tuple [i64 (Lib.intSat 64 s),.iface 285 (.iptr [])]),⟨_,rfl,?_⟩,⟨_,_,rfl,.inr ⟨rfl,by rw[h];simp⟩⟩,rfl⟩
   simp only[Qd,Qi,Zm]
   exact⟨_,rfl,_,_,rfl,rfl,_,_,rfl,⟨_,rfl,_,_,rfl,trivial⟩,rfl⟩
end
def X7 (n:Nat)(l:Bs):Nat:=l.foldl (fun n c=>10*n+(c.toNat - 48)) n
theorem Hk:∀(l:Bs) (n:Nat),n≤X7 n l
 |[],n=>fG _
 |c::l,n=>fI (by omega) (Hk l (10*n+(c.toNat - 48)))
theorem W8:∀(l:Bs) (n:Nat),l.all JP=true→n≤18446744073709551615→
 (X7 n l≤18446744073709551615∧Lib.parseUintM 18446744073709551615 n l=.ok (X7 n l))∨(18446744073709551615<X7 n l∧Lib.parseUintM 18446744073709551615 n l=.range)
 |[],n,_,hn=>.inl ⟨hn,rfl⟩
 |c::l,n,h,hn=>by
  simp only[dU,cD]at h
  have hc:48≤c.toNat∧c.toNat≤57:=by simpa[JP]using h.1
  have hle:=Hk l (10*n+(c.toNat - 48))
  have e:X7 n (c::l)=X7 (10*n+(c.toNat - 48)) l:=rfl
  rw[e]
  simp only[Lib.parseUintM,fC hc]
  have e2:n*10+(c.toNat - 48)=10*n+(c.toNat - 48):=by omega
  split
  ·exact .inr ⟨by omega,rfl⟩
  ·rw[e2]
   split
   ·exact .inr ⟨by omega,rfl⟩
   ·exact W8 l _ h.2 (by omega)
theorem WZ {l:Bs}(hne:l≠[])(h:l.all JP=true):
 (U7 l<9223372036854775808∧Lib.parseIntB 64 l=.ok (U7 l))∨(9223372036854775808≤U7 l∧Lib.parseIntB 64 l=.range):=by
 obtain⟨c,r,rfl⟩:=List.exists_cons_of_ne_nil hne
 have h':=h
 simp only[dU,cD]at h
 have hc:48≤c.toNat∧c.toNat≤57:=by simpa[JP]using h.1
 have hU:=W8 (c::r) 0 h' (by omega)
 rw[Lib.parseIntB_plain 64 c r (by omega) (by omega)]
 have e:Lib.parseUintB 64 (c::r)=Lib.parseUintM 18446744073709551615 0 (c::r):=by
  simp only[Lib.parseUintB];rw[fD (by simp)]
 rw[e]
 have e2:U7 (c::r)=X7 0 (c::r):=rfl
 rw[e2]
 rcases hU with⟨h1,h2⟩|⟨h1,h2⟩
 ·rw[h2]
  simp only[Lib.signlessC]
  by_cases h3:(2:Nat)^(64 - 1)≤X7 0 (c::r)
  ·exact .inr ⟨by simpa using h3,by simp at h3;simp [h3]⟩
  ·exact .inl ⟨by simpa using h3,by simp at h3;simp;omega⟩
 ·rw[h2]
  exact .inr ⟨by omega,rfl⟩
end Go.Proofs.YtcbjbgaefighcaaGreatDoor
namespace Go.Proofs.YtcbjbgaefighcaaGreatDoor
open Go Go.Ax Go.Proofs
theorem KN {c:UInt8}{r:Bs}:∃t,Qc (c::r)=c::t:=by
 have:=M0 (u:=c::r) (by simp)
 obtain⟨k,hk⟩:∃k,Z4 (c::r)=k+1:=⟨Z4 (c::r) - 1,by omega⟩
 exact⟨r.take k,by simp [Qc,hk]⟩
theorem Hf {c:UInt8}(h:JP c=true):U8 c=false:=by
 have:48≤c.toNat∧c.toNat≤57:=by simpa[JP]using h
 simp only[U8,lF];omega
theorem Kq {f:UInt8→Bool}:∀(l:Bs),l.take (l.takeWhile f).length=l.takeWhile f
 |[]=>rfl
 |c::l=>by
  cases h:f c with
  |true=>rw[List.takeWhile_cons_of_pos h,cE,List.take_succ_cons,Kq l]
  |false=>rw[List.takeWhile_cons_of_neg (by simp [h])];rfl
theorem Fm {u:Bs}(h:Y0 u=true):Qc u=u.takeWhile JP:=by
 match u,h with
 |c::r,h=>
  have hd:JP c=true:=h
  simp only[Qc,Z4,Hf hd,hd,if_true,cB,if_false]
  exact Kq _
theorem KU {u:Bs}(h:Y0 u=true):(Qc u).all JP=true:=by
 rw[Fm h];exact List.all_takeWhile
theorem HD {s u:Bs}(hu:At s u):(Qc u).length≤s.length:=by
 have:=hu.le
 simp only[Qc,lJ];omega
section
variable (G:Nat→Option (List AV))
theorem Yg {A:Q2}{r:Nat}{s u w:Bs}{lo:Bool}(hr:A r=some (rd s u lo))(hu:At s u)(hs:s.length≤20000):
 Qz Tryz.prog G 87 [.ptr r 0,.str w] A (bo (decide (Qc u=w))) (A.upd r (some (rd s (if Qc u=w then adv u else u) lo))):=by
 have:=LG G hr hu (w:=w) (by omega)
 by_cases h:Qc u=w
 ·simpa[h]using this
 ·simp only[h,if_false,decide_false]at this⊢
  rwa [Y8 hr]
theorem Xf (hG:Gl G){A:Q2}{r:Nat}{s u:Bs}{lo:Bool}(hr:A r=some (rd s u lo))(hu:At s u)(hs:s.length≤20000):
 Qq Tryz.prog G 212 [.ptr r 0] A (J0 r s A lo Zh i64 (Yf u)):=by
 refine Q4 l212 (fE rfl) ?_
 simp only[ET,QI,seval]
 refine Q3 (Yg G hr hu hs) ?_
 obtain⟨neg,u1,hu1,hp,hneg,hu1'⟩:∃neg u1,At s u1∧Yf u=JF neg u1∧decide (Qc u=[45])=neg∧(if Qc u=[45]then adv u else u)=u1:=by
  by_cases h:Qc u=[45]
  ·exact⟨true,adv u,hu.adv,by simp [Yf,Vv,h],by simp [h],by simp [h]⟩
  ·exact⟨false,u,hu,by simp [Yf,Vv,h],by simp [h],by simp [h]⟩
 rw[hneg,hu1',hp]
 have hr1:(A.upd r (some (rd s u1 lo))) r=some (rd s u1 lo):=Q0 ..
 have hbad:∀{env l st},JF neg u1=.bad u1→(ZA Tryz.prog G false [.tmp 2] (J0 r s A lo Zh i64 (JF neg u1))).call (.func (.func 89) [] []) [.ptr r 0] (some 50) l st env [] (A.upd r (some (rd s u1 lo))):=by
  intro env l st he
  rw[he]
  exact Y5 (R:=.bad u1) (k:=fun(a:Int) u=>.ok a u) (RK (enc:=i64) (lo0:=lo) (big:=Zh) G hr1) (by rw[QV];exact Ve.refl _) (fun _ _ h=>by cases h)
 simp only[QI,seval]
 refine Q3 (WM G hr1 hu1) ?_
 simp only[QI,seval]
 refine Qh (FV hG (Qc u1) _ (by have:=HD hu1;omega)) ?_
 rintro o A' ⟨⟨n,e,rfl,he⟩,rfl⟩
 cases hn:Y0 u1 with
 |false=>
  have hb:JF neg u1=.bad u1:=by simp [JF,hn]
  simp only[QI,seval]
  refine⟨fun h=>hbad hb,fun h=> ?_⟩
  obtain⟨c,r',rfl⟩:∃c r',u1=c::r':=by
   cases u1 with
   |nil=>exact absurd rfl h
   |cons c r'=>exact⟨c,r',rfl⟩
  obtain⟨t,ht⟩:=KN (c:=c) (r:=r')
  rw[ht]
  refine Jq (v:=u8 c) (by simp) ?_
  simp only[QI,seval]
  refine Q3 (Ta G c _) ?_
  have hc:JP c=false:=hn
  simp only[hc,QI,seval]
  exact hbad hb
 |true=>
  simp only[QI,seval]
  obtain⟨c,r',rfl⟩:∃c r',u1=c::r':=by
   cases u1 with
   |nil=>cases hn
   |cons c r'=>exact⟨c,r',rfl⟩
  have hc:JP c=true:=hn
  obtain⟨t,ht⟩:=KN (c:=c) (r:=r')
  refine⟨fun h=>(by rw[ht]at h;cases h),fun h=> ?_⟩
  have hpn:JF neg (c::r')=if 2147483648<U7 (Qc (c::r'))∨(1<(Qc (c::r')).length∧(Qc (c::r')).head?=some 48)∨(neg=true∧U7 (Qc (c::r'))=0)then .bad (c::r')else .ok (if neg then -(U7 (Qc (c::r')):Int)else U7 (Qc (c::r'))) (adv (c::r')):=by
   simp only[JF,hn,if_true]
  have hd:=WZ h (KU hn)
  generalize hD:U7 (Qc (c::r'))=D at hpn hd
  rw[ht]at hd he hpn h⊢
  refine Jq (v:=u8 c) (by simp) ?_
  simp only[QI,seval]
  refine Q3 (Ta G c _) ?_
  simp only[hc,QI,seval]
  rcases he with⟨rfl,he⟩|⟨rfl,he⟩
  ·have hn':D<9223372036854775808∧n=D:=by
    rcases hd with⟨h1,h2⟩|⟨h1,h2⟩
    ·rw[h2]at he;cases he;exact⟨h1,rfl⟩
    ·rw[h2]at he;cases he
   obtain⟨hD63,rfl⟩:=hn'
   have h48:((c.toNat:Int)=48)↔(c::t).head?=some 48:=by
    simp only[List.head?_cons,cA]
    constructor
    ·intro h;apply UInt8.toNat_inj.1;show c.toNat=48;omega
    ·rintro rfl;rfl
   simp only[←h48,cE]at hpn
   have hr2:=QV A r (some (rd s (c::r') lo)) (some (rd s (adv (c::r')) lo))
   cases neg
   ·have hno:(2147483648<D∨(1<t.length+1∧(c.toNat:Int)=48))→JF false (c::r')=.bad (c::r'):=fun h1=>by rw[hpn,fC (by omega)]
    have hfin:¬(2147483648<D∨(1<t.length+1∧(c.toNat:Int)=48))→JF false (c::r')=.ok D (adv (c::r')):=fun h1=>by rw[hpn,fD (by simp;omega)];rfl
    simp only[QI,seval]
    refine⟨fun h2=>hbad (hno (by omega)),fun h2=>⟨fun h3=>⟨fun h4=>hbad (hno (by omega)),fun h4=> ?_⟩,fun h3=> ?_⟩⟩
    all_goals
     rw[hfin (by omega)]
     refine Q3 (Xd G hr1 hu1 (by omega)) ?_
     simp only[QI,seval]
     exact Wc (Wk.refl _) (by rw[Qo];exact Ve.refl _)
   ·have hno:(2147483648<D∨(1<t.length+1∧(c.toNat:Int)=48)∨D=0)→JF true (c::r')=.bad (c::r'):=fun h1=>by rw[hpn,fC (by simp;omega)]
    have hfin:¬(2147483648<D∨(1<t.length+1∧(c.toNat:Int)=48)∨D=0)→JF true (c::r')=.ok (-D) (adv (c::r')):=fun h1=>by rw[hpn,fD (by simp;omega)];rfl
    have hw:D≤2147483648→IntKind.i64.wrap (0 - (D:Int))= -(D:Int):=fun h=>by rw[Qf (by omega) (by omega)];omega
    simp only[QI,seval]
    refine⟨fun h2=>hbad (hno (by omega)),fun h2=>⟨fun h3=>⟨fun h4=>hbad (hno (by omega)),fun h4=>⟨fun h5=>hbad (hno (by omega)),fun h5=> ?_⟩⟩,fun h3=>⟨fun h5=>hbad (hno (by omega)),fun h5=> ?_⟩⟩⟩
    all_goals
     rw[hfin (by omega)]
     refine Q3 (Xd G hr1 hu1 (by omega)) ?_
     simp only[hw (by omega),QI,seval]
     exact Wc (Wk.refl _) (by rw[Qo];exact Ve.refl _)
  ·simp only[QI,seval]
   refine hbad ?_
   have:9223372036854775808≤D:=by
    rcases hd with⟨h1,h2⟩|⟨h1,h2⟩
    ·exact absurd h2 (he _)
    ·exact h1
   rw[hpn,fC (.inl (by omega))]
end
end Go.Proofs.YtcbjbgaefighcaaGreatDoor
