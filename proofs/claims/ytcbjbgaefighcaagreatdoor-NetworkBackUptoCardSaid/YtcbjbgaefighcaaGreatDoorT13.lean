/- Part 13 of the proof. -/
import Derived.Test.YtcbjbgaefighcaaGreatDoorT0
import Derived.Test.YtcbjbgaefighcaaGreatDoorT10
import Derived.Test.YtcbjbgaefighcaaGreatDoorT11
import Derived.Test.YtcbjbgaefighcaaGreatDoorT12
import Derived.Lib.ParseIntBCases
import Derived.Lib.ConvBytes
set_option linter.all false
namespace Go.Proofs.YtcbjbgaefighcaaGreatDoor
open Go Go.Ax Go.Proofs
structure Beh (s u u':Bs):Prop where
 at':At s u'
 lt:u'.length<u.length
structure Beq (s u u':Bs):Prop where
 at':At s u'
 le:u'.length≤u.length
theorem Beh.beq {s u u':Bs}(h:Beh s u u'):Beq s u u':=⟨h.at',Nat.le_of_lt h.lt⟩
theorem Beh.trans {s a b c:Bs}(h:Beh s a b)(k:Beq s b c):Beh s a c:=⟨k.at',Nat.lt_of_le_of_lt k.le h.lt⟩
theorem Beq.trans {s a b c:Bs}(h:Beq s a b)(k:Beq s b c):Beq s a c:=⟨k.at',fI k.le h.le⟩
theorem vU {s a b c:Bs}(h:Beq s a b)(k:Beh s b c):Beh s a c:=⟨k.at',Nat.lt_of_lt_of_le k.lt h.le⟩
theorem Beq.refl {s u:Bs}(h:At s u):Beq s u u:=⟨h,fG _⟩
theorem Beh.adv {s u w:Bs}(h:At s u)(hw:cur u=w)(hn:w≠[]):Beh s u (adv u):=⟨h.adv,MY hw hn⟩
theorem bind_ok {α β:Type}{R:Res α}{k:α→Bs→Res β}{b:β}{u':Bs}(h:R.bind k=.ok b u'):∃a u1,R=.ok a u1∧k a u1=.ok b u':=by
 cases R with
 |ok a u=>exact⟨a,u,rfl,h⟩
 |bad u=>cases h
def Tk {α:Type}(p:Bs→Res α):Prop:=∀s u a u',At s u→p u=.ok a u'→Beh s u u'
def Ws {α:Type}(p:Bs→Res α):Prop:=∀s u a u',At s u→p u=.ok a u'→Beq s u u'
theorem Qn {w:Bs}(hw:w≠[]):Tk (Ql w):=fun s u a u' hu h=>by
 unfold Ql at h
 split at h
 ·rename_i hc;cases h;exact .adv hu hc hw
 ·cases h
theorem FZ {w:Bs}(h:Qe w=true):w≠[]:=fun e=>by subst e;cases h
theorem QM:Tk Za:=fun s u a u' hu h=>by
 unfold Za at h
 split at h
 ·rename_i hc;cases h;exact .adv hu rfl (FZ hc)
 ·cases h
theorem E6 {u:Bs}(h:JP u=true):u≠[]:=fun e=>by subst e;cases h
theorem Kv {neg:Bool}:Tk (JW neg):=fun s u a u' hu h=>by
 unfold JW at h
 split at h
 ·rename_i hc
  split at h
  ·cases h
  ·cases h;exact⟨hu.adv,NA (E6 hc)⟩
 ·cases h
theorem Oq:Tk JK:=fun s u a u' hu h=>by
 unfold JK at h
 split at h
 ·rename_i hc
  have h1:=Beh.adv hu hc (by decide)
  exact h1.trans (Kv _ _ _ _ h1.at' h).beq
 ·exact Kv _ _ _ _ hu h
theorem KX {n:Nat}{t:Bs}{k:Int}(h:JE n t=some k):t≠[]:=fun e=>by
 subst e
 unfold JE ZH at h
 split at h <;> simp [List.lookup]at h <;> revert h <;> decide
theorem Na {α:Type}{sep:Bs}{one:Bs→Res α}(hs:sep≠[])(h1:Tk one):∀f l,Ws (J9 sep one f l)
 |0,_=>fun _ _ _ _ _ h=>by simp [J9]at h
 |f+1,l=>fun s u a u' hu h=>by
  simp only[J9]at h
  split at h
  ·rename_i hc
   have b0:=Beh.adv hu hc hs
   obtain⟨y,u1,h2,h⟩:=bind_ok h
   have b1:=h1 _ _ _ _ b0.at' h2
   exact(b0.trans (b1.trans (Na hs h1 f _ _ _ _ _ b1.at' h)).beq).beq
  ·cases h;exact .refl hu
theorem VU {α:Type}{sep:Bs}{one:Bs→Res α}(hs:sep≠[])(h1:Tk one){f:Nat}:Tk (ZV sep one f):=fun s u a u' hu h=>by
 obtain⟨y,u1,h2,h⟩:=bind_ok h
 have b1:=h1 _ _ _ _ hu h2
 exact b1.trans (Na hs h1 f _ _ _ _ _ b1.at' h)
theorem L7 {α:Type}{one:Bs→Res α}(h1:Tk one){f:Nat}:Tk (Uf one f):=fun s u a u' hu h=>by
 unfold Uf at h
 split at h
 ·rename_i hc;cases h;exact .adv hu hc (by decide)
 ·obtain⟨_,u1,h1',h⟩:=bind_ok h
  obtain⟨_,u2,h2,h⟩:=bind_ok h
  cases h
  have b1:=VU (by decide) h1 _ _ _ _ hu h1'
  exact b1.trans (Qn (by decide) _ _ _ _ b1.at' h2).beq
theorem TG {α:Type}{one:Bs→Res α}(h1:Tk one):∀f l,Tk (ZE one f l)
 |0,_=>fun _ _ _ _ _ h=>by simp [ZE]at h
 |f+1,l=>fun s u a u' hu h=>by
  simp only[ZE]at h
  split at h
  ·rename_i hc;cases h;exact .adv hu hc (by decide)
  ·obtain⟨y,u1,h2,h⟩:=bind_ok h
   have b1:=h1 _ _ _ _ hu h2
   exact b1.trans (TG h1 f _ _ _ _ _ b1.at' h).beq
structure TkE (f:Nat):Prop where
 e:Tk (Z0 f)
 r:∀n,Tk (JA f n)
 l:∀n x,Ws (ZU f n x)
 u:Tk (Zv f)
 p:Tk (JX f)
theorem Hk:∀f,TkE f
 |0=>⟨fun _ _ _ _ _ h=>by simp [Z0]at h,fun _ _ _ _ _ _ h=>by simp [JA]at h,fun _ _ _ _ _ _ _ h=>by simp [ZU]at h,fun _ _ _ _ _ h=>by simp [Zv]at h,fun _ _ _ _ _ h=>by simp [JX]at h⟩
 |f+1=>by
  have ih:=Hk f
  refine⟨?_,?_,?_,?_,?_⟩
  ·intro s u a u' hu h
   simp only[Z0]at h
   obtain⟨x,u1,h1,h⟩:=bind_ok h
   have b1:=ih.r _ _ _ _ _ hu h1
   split at h
   ·rename_i hc
    obtain⟨y,u2,h2,h⟩:=bind_ok h
    obtain⟨_,u3,h3,h⟩:=bind_ok h
    obtain⟨z,u4,h4,h⟩:=bind_ok h
    cases h
    have b2:=Beh.adv b1.at' hc (by decide)
    have b3:=ih.e _ _ _ _ b2.at' h2
    have b4:=Qn (by decide) _ _ _ _ b3.at' h3
    have b5:=ih.e _ _ _ _ b4.at' h4
    exact b1.trans (b2.trans (b3.trans (b4.trans b5.beq).beq).beq).beq
   ·cases h;exact b1
  ·intro n s u a u' hu h
   simp only[JA]at h
   split at h
   ·exact ih.u _ _ _ _ hu h
   ·obtain⟨x,u1,h1,h⟩:=bind_ok h
    have b1:=ih.r _ _ _ _ _ hu h1
    exact b1.trans (ih.l _ _ _ _ _ _ b1.at' h)
  ·intro n x s u a u' hu h
   simp only[ZU]at h
   split at h
   ·cases h;exact .refl hu
   ·rename_i k hk
    have b0:=Beh.adv hu rfl (KX hk)
    obtain⟨y,u1,h1,h⟩:=bind_ok h
    have b1:=ih.r _ _ _ _ _ b0.at' h1
    split at h
    ·cases h;exact(b0.trans b1.beq).beq
    ·exact(b0.trans (b1.trans (ih.l _ _ _ _ _ _ b1.at' h)).beq).beq
  ·intro s u a u' hu h
   simp only[Zv]at h
   split at h
   ·rename_i hc
    have b0:=Beh.adv hu hc (by decide)
    obtain⟨y,u1,h1,h⟩:=bind_ok h
    cases h
    exact b0.trans (ih.u _ _ _ _ b0.at' h1).beq
   ·split at h
    ·rename_i hc
     have b0:=Beh.adv hu hc (by decide)
     split at h
     ·obtain⟨y,u1,h1,h⟩:=bind_ok h
      cases h
      exact b0.trans (Kv _ _ _ _ b0.at' h1).beq
     ·obtain⟨y,u1,h1,h⟩:=bind_ok h
      cases h
      exact b0.trans (ih.u _ _ _ _ b0.at' h1).beq
    ·exact ih.p _ _ _ _ hu h
  ·intro s u a u' hu h
   simp only[JX]at h
   split at h
   ·obtain⟨y,u1,h1,h⟩:=bind_ok h
    cases h
    exact Kv _ _ _ _ hu h1
   ·split at h
    ·rename_i hc
     have b0:=Beh.adv hu hc (by decide)
     obtain⟨y,u1,h1,h⟩:=bind_ok h
     obtain⟨_,u2,h2,h⟩:=bind_ok h
     cases h
     have b1:=ih.e _ _ _ _ b0.at' h1
     exact b0.trans (b1.trans (Qn (by decide) _ _ _ _ b1.at' h2).beq).beq
    ·obtain⟨y,u1,h1,h⟩:=bind_ok h
     have b1:=QM _ _ _ _ hu h1
     split at h
     ·rename_i hc
      have b2:=Beh.adv b1.at' hc (by decide)
      obtain⟨l,u2,h2,h⟩:=bind_ok h
      cases h
      exact b1.trans (b2.trans (L7 ih.e _ _ _ _ b2.at' h2).beq).beq
     ·cases h;exact b1
theorem JS {f:Nat}:Tk (Z0 f):=(Hk f).e
structure TkS (f:Nat):Prop where
 b:Tk (ZF f)
 s:Tk (ZL f)
theorem N9 {f:Nat}{k:Int}:Tk fun u=>(Za u).bind fun n u1=>(Ql [61] u1).bind fun _ u2=>(Z0 f u2).bind fun x u3=>(Ql [59] u3).bind fun _ u4=>.ok (Stmt.mk k n x [] []) u4:=fun s u a u' hu h=>by
 obtain⟨_,u1,h1,h⟩:=bind_ok h
 obtain⟨_,u2,h2,h⟩:=bind_ok h
 obtain⟨_,u3,h3,h⟩:=bind_ok h
 obtain⟨_,u4,h4,h⟩:=bind_ok h
 cases h
 have b1:=QM _ _ _ _ hu h1
 have b2:=Qn (by decide) _ _ _ _ b1.at' h2
 have b3:=JS _ _ _ _ b2.at' h3
 have b4:=Qn (by decide) _ _ _ _ b3.at' h4
 exact b1.trans (b2.trans (b3.trans b4.beq).beq).beq
theorem HW:∀f,TkS f
 |0=>⟨fun _ _ _ _ _ h=>by simp [ZF]at h,fun _ _ _ _ _ h=>by simp [ZL]at h⟩
 |f+1=>by
  have ih:=HW f
  refine⟨?_,?_⟩
  ·intro s u a u' hu h
   simp only[ZF]at h
   obtain⟨_,u1,h1,h⟩:=bind_ok h
   have b1:=Qn (by decide) _ _ _ _ hu h1
   exact b1.trans (TG ih.s _ _ _ _ _ _ b1.at' h).beq
  ·intro s u a u' hu h
   simp only[ZL]at h
   have key:∀{u a u'},At s u→((Ql [40] u).bind fun _ u1=>(Z0 f u1).bind fun x u2=>(Ql [41] u2).bind fun _ u3=>(ZF f u3).bind fun b u4=>Res.ok (x,b) u4)=.ok a u'→Beh s u u':=by
    intro u a u' hu h
    obtain⟨_,u1,h1,h⟩:=bind_ok h
    obtain⟨_,u2,h2,h⟩:=bind_ok h
    obtain⟨_,u3,h3,h⟩:=bind_ok h
    obtain⟨_,u4,h4,h⟩:=bind_ok h
    cases h
    have b1:=Qn (by decide) _ _ _ _ hu h1
    have b2:=JS _ _ _ _ b1.at' h2
    have b3:=Qn (by decide) _ _ _ _ b2.at' h3
    have b4:=ih.b _ _ _ _ b3.at' h4
    exact b1.trans (b2.trans (b3.trans b4.beq).beq).beq
   split at h
   ·rename_i hc
    have b0:=Beh.adv hu hc (by decide)
    obtain⟨_,u1,h1,h⟩:=bind_ok h
    obtain⟨x,u2,h2,h⟩:=bind_ok h
    obtain⟨_,u3,h3,h⟩:=bind_ok h
    obtain⟨b,u4,h4,h⟩:=bind_ok h
    have b4:=key (a:=(x,b)) (u':=u4) b0.at' (by simp [h1,h2,h3,h4])
    split at h
    ·rename_i hc
     have b5:=Beh.adv b4.at' hc (by decide)
     obtain⟨_,u5,h5,h⟩:=bind_ok h
     cases h
     exact b0.trans (b4.trans (b5.trans (ih.b _ _ _ _ b5.at' h5).beq).beq).beq
    ·cases h;exact b0.trans b4.beq
   ·split at h
    ·rename_i hc
     have b0:=Beh.adv hu hc (by decide)
     obtain⟨_,u1,h1,h⟩:=bind_ok h
     obtain⟨x,u2,h2,h⟩:=bind_ok h
     obtain⟨_,u3,h3,h⟩:=bind_ok h
     obtain⟨b,u4,h4,h⟩:=bind_ok h
     cases h
     have b4:=key (a:=(x,b)) (u':=u') b0.at' (by simp only[h1,h2,h3,h4,Q7])
     exact b0.trans b4.beq
    ·split at h
     ·rename_i hc
      have b0:=Beh.adv hu hc (by decide)
      obtain⟨_,u1,h1,h⟩:=bind_ok h
      obtain⟨_,u2,h2,h⟩:=bind_ok h
      cases h
      have b1:=JS _ _ _ _ b0.at' h1
      exact b0.trans (b1.trans (Qn (by decide) _ _ _ _ b1.at' h2).beq).beq
     ·split at h
      ·rename_i hc
       have b0:=Beh.adv hu hc (by decide)
       exact b0.trans (N9 _ _ _ _ b0.at' h).beq
      ·exact N9 _ _ _ _ hu h
theorem LN {f:Nat}:Tk (V4 f):=fun s u a u' hu h=>by
 obtain⟨_,u1,h1,h⟩:=bind_ok h
 obtain⟨_,u2,h2,h⟩:=bind_ok h
 obtain⟨_,u3,h3,h⟩:=bind_ok h
 obtain⟨_,u4,h4,h⟩:=bind_ok h
 obtain⟨_,u5,h5,h⟩:=bind_ok h
 cases h
 have b1:=Qn (by decide) _ _ _ _ hu h1
 have b2:=QM _ _ _ _ b1.at' h2
 have b3:=Qn (by decide) _ _ _ _ b2.at' h3
 have b4:=L7 QM _ _ _ _ b3.at' h4
 have b5:=(HW f).b _ _ _ _ b4.at' h5
 exact b1.trans (b2.trans (b3.trans (b4.trans b5.beq).beq).beq).beq
theorem UR {α β:Type}{p:Bs→Res α}{k:α→Bs→Res β}(hp:Tk p)(hk:∀a,Ws (k a)):Tk fun u=>(p u).bind k:=fun s u a u' hu h=>by
 obtain⟨x,u1,h1,h⟩:=bind_ok h
 have b1:=hp _ _ _ _ hu h1
 exact b1.trans (hk _ _ _ _ _ b1.at' h)
theorem Z3 {α β:Type}{p:Bs→Res α}{k:α→Bs→Res β}(hp:Ws p)(hk:∀a,Ws (k a)):Ws fun u=>(p u).bind k:=fun s u a u' hu h=>by
 obtain⟨x,u1,h1,h⟩:=bind_ok h
 have b1:=hp _ _ _ _ hu h1
 exact b1.trans (hk _ _ _ _ _ b1.at' h)
theorem Tk.tk0 {α:Type}{p:Bs→Res α}(h:Tk p):Ws p:=fun s u a u' hu e=>(h s u a u' hu e).beq
theorem U4 {α:Type}{a:α}:Ws fun u=>.ok a u:=fun s u a u' hu h=>by cases h;exact .refl hu
theorem Ya {α:Type}{w:Bs}{d:α}{p:Bs→Res α}(hw:w≠[])(hp:Ws p):Ws (Jk w d p):=fun s u a u' hu h=>by
 unfold Jk at h
 split at h
 ·rename_i hc
  have b0:=Beh.adv hu hc hw
  exact(b0.trans (hp _ _ _ _ b0.at' h)).beq
 ·cases h;exact .refl hu
theorem KB {α:Type}{w:Bs}{one:Bs→Res α}(hw:w≠[])(h1:Ws one):∀f l,Ws (Jg w one f l)
 |0,_=>fun _ _ _ _ _ h=>by simp [Jg]at h
 |f+1,l=>fun s u a u' hu h=>by
  simp only[Jg]at h
  split at h
  ·rename_i hc
   have b0:=Beh.adv hu hc hw
   obtain⟨y,u1,h2,h⟩:=bind_ok h
   have b1:=h1 _ _ _ _ b0.at' h2
   exact(b0.trans (b1.trans (KB hw h1 f _ _ _ _ _ b1.at' h))).beq
  ·cases h;exact .refl hu
theorem H4:Tk Wf:=UR QM fun n s u a u' hu h=>by
 repeat' split at h
 all_goals first
  |cases h;done
  |(rename_i hc
    have b0:=Beh.adv hu hc (by decide)
    obtain⟨y,u1,h1,h⟩:=bind_ok h
    cases h
    exact(b0.trans (Oq _ _ _ _ b0.at' h1).beq).beq)
theorem kG {f:Nat}:Tk (X6 f):=UR (VU (by decide) H4) fun _=>U4
theorem KR {f:Nat}:Tk (VY f):=UR QM fun _=>Z3 (Qn (by decide)).tk0 fun _=>Z3 JS.tk0 fun _=>U4
theorem IH:Tk UL:=UR QM fun _=>Z3 (Qn (by decide)).tk0 fun _=>Z3 Oq.tk0 fun _=>U4
theorem Hn:Ws Yl:=fun s u a u' hu h=>by
 unfold Yl at h
 split at h
 ·rename_i hc;cases h;exact(Beh.adv hu hc (by decide)).beq
 ·split at h
  ·rename_i hc;cases h;exact(Beh.adv hu hc (by decide)).beq
  ·cases h;exact .refl hu
theorem Nb {f:Nat}:Tk (WZ f):=UR QM fun _=>Z3 Hn fun _=>Z3 (Ya (by decide) kG.tk0) fun _=>Z3 (Ya (by decide) Oq.tk0) fun _=>Z3 (Qn (by decide)).tk0 fun _=>U4
theorem tk_chan:Tk WI:=UR QM fun _ s u a u' hu h=>by
 split at h
 ·rename_i hc;cases h;exact(Beh.adv hu hc (by decide)).beq
 ·obtain⟨y,u1,h1,h⟩:=bind_ok h
  cases h
  exact(Qn (by decide) _ _ _ _ hu h1).beq
theorem Si {f:Nat}:Tk (Xq f):=
 UR QM fun _=>Z3 (Qn (by decide)).tk0 fun _=>Z3 QM.tk0 fun _=>Z3 (Ya (by decide) kG.tk0) fun _=>Z3 (Ya (by decide) JS.tk0) fun _=>
 Z3 (Ya (by decide) tk_chan.tk0) fun _=>Z3 (Ya (by decide) (VU (by decide) KR).tk0) fun _=>Z3 (Ya (by decide) (VU (by decide) IH).tk0) fun _=>
 Z3 (Ya (by decide) Oq.tk0) fun _=>Z3 (Ya (by decide) Oq.tk0) fun _=>Z3 (Qn (by decide)).tk0 fun _=>U4
theorem EV {f:Nat}:Tk (Xp f):=
 UR QM fun _=>Z3 (Qn (by decide)).tk0 fun _=>Z3 QM.tk0 fun _=>Z3 (Qn (by decide)).tk0 fun _=>
 Z3 (KB (by decide) Nb.tk0 _ _) fun _=>Z3 (KB (by decide) Si.tk0 _ _) fun _=>Z3 (Qn (by decide)).tk0 fun _=>U4
theorem N8:Tk Iy:=
 UR QM fun _=>Z3 (Qn (by decide)).tk0 fun _=>Z3 Oq.tk0 fun _=>Z3 (Qn (by decide)).tk0 fun _=>Z3 Oq.tk0 fun _=>Z3 (Qn (by decide)).tk0 fun _=>Z3 Oq.tk0 fun _=>U4
theorem F4 {f:Nat}{b g:Bool}:Tk (ZM f b g):=UR (VU (by decide) QM) fun _=>U4
theorem ZB {sz m:Nat}{cs:List AV}{t:Option Nat}:UO sz (.slice sz m cs t)=some (m,cs):=by simp [UO]
theorem Jf (z:List Value)(v:AV){sz:Nat}(h:v.cells.length=sz)(hz:z.length=sz):Xz sz 1 z [(0,v)]=some v.cells:=by
 simp only[Xz,cJ,dH,Xv,Nat.zero_mul]
 rw[fC ⟨h,by simp⟩]
 simp [VP]
section
variable (G:Nat→Option (List AV))
theorem GJ {α:Type}{A:Q3}{r:Nat}{s u sep:Bs}{lo:Bool}{one:Bs→Res α}{f:Nat}{big:α→Bool}{enc:α→AV}{fn:FuncId}{first cap:List AV}(hr:A r=some (rd s u lo))(hu:At s u)(hs:s.length≤20000)(hsep:sep≠[])(hf:u.length<f)
 (h1:∀A' u' lo',QK r A A'→A' r=some (rd s u' lo')→At s u'→u'.length≤u.length→Qt Tryz.prog G fn (first++cap) A' (Jo r s A' lo' big enc (one u')))(htk:Tk one)(hsz:∀a,(enc a).cells.length=1)(hone:∀a,(enc a).cells.all AV.one=true):
 Qt Tryz.prog G 170 [.ptr r 0,.str sep,.func (.func fn) first cap] A (Jo r s A lo (fun l=>l.any big) (Qy 1 fun a=>(enc a).cells) (ZV sep one f u)):=by
 refine Q4 l170 (fE rfl) ?_
 simp only[Ay,QJ,seval]
 refine YM (by simpa using h1 A u lo (.refl _ _) hr hu (fG _)) (U2.refl _) fun x u1 hx=> ?_
 have b1:=htk _ _ _ _ hu hx
 simp only[QJ,seval]
 refine QY (cs:=(enc x).cells) (Jf _ _ (hsz x) (by decide)) fun t ht=> ?_
 obtain⟨htr,ht0⟩:=Q9 ht
 simp only[QJ,seval]
 refine Qv (fun n env ds A'=>∃(l:List α) (u':Bs) (t:Nat),n=u'.length∧env 0=.ptr r 0∧env 1=.str sep∧env 2=.func (.func fn) first cap∧env 7=.slice 1 l.length (l.flatMap fun a=>(enc a).cells) (some t)∧ds=[]∧At s u'∧u'.length≤u.length∧
  l.length+u'.length≤s.length∧t≠r∧A t=none∧A' r=some (rd s u' (lo||l.any big))∧A' t=some .tip∧QK r A A'∧∃f',u'.length<f'∧J9 sep one f [x] u1=J9 sep one f' l u') u1.length
  ⟨[x],u1,t,rfl,rfl,rfl,rfl,by simp [JH],rfl,b1.at',b1.beq.le,by have:=b1.lt;have:=hu.le;simp;omega,htr,ht0,by simp [Q3.upd,htr.symm],by simp,((QK.refl _ _).at _).tip htr ht,f,by have:=b1.lt;omega,rfl⟩ ?_
 rintro n env ds A' ⟨l,u',t,rfl,h0,h1',h2,h7,rfl,hu',hle,hlen,htr,ht0,hr',ht',hov,f',hf',hR⟩
 obtain⟨f',rfl⟩:∃m,f'=m+1:=⟨f' - 1,by omega⟩
 simp only[h0,h1',h2,h7,QJ,seval]
 refine Q2 (Tf G hr' hu' (by omega)) ?_
 rw[hR]
 by_cases hc:cur u'=sep
 ·have b2:=Beh.adv hu' hc hsep
  simp only[fA hc,fC hc,h0,h1',h2,h7,J9,QJ,seval]
  refine YM (by simpa using h1 _ (adv u') _ (hov.at _) (Q0 ..) b2.at' (by have:=b2.lt;omega)) (hov.at _).wk0 fun y u2 hy=> ?_
  have b3:=htk _ _ _ _ b2.at' hy
  simp only[h7,QJ,seval]
  refine QY (cs:=(enc y).cells) (Jf _ _ (hsz y) (by decide)) fun t2 ht2=> ?_
  obtain⟨e1,ht2⟩:=Q9 ht2
  have e2:t2≠t:=(Q6 ht' ht2).symm
  have hl3:=b3.lt
  have hl2:=b2.lt
  simp only[h7,ZB,V9,QJ,seval]
  refine⟨by simp [Q3.upd,htr,e2.symm,ht'],by omega,hone y,fun t3 ht3=> ?_⟩
  obtain⟨e3,ht3⟩:=Q9 ht3
  obtain⟨e4,ht3⟩:=Q9 ht3
  have e5:t3≠t:=(Q6 ht' ht3).symm
  refine⟨u2.length,by omega,l++[y],u2,t3,rfl,h0,h1',h2,by simp,b3.at',by omega,by simp;omega,e4,hov.gone e4 ht3,?_,by simp,?_,f',by omega,by simp only[hy,Q7]⟩
  ·simp [Q3.upd,htr.symm,e1.symm,e4.symm,dK]
  ·exact(((((hov.at _).tip e1 (by simpa[Q3.upd,e1]using ht2)).set ht0 (by simp))).set (hov.gone e4 ht3) (by simp))
 ·simp only[fB hc,fD hc,h0,h1',h2,h7,J9,QJ,seval]
  exact Kf Ym (hov.wk hr' (by intros;simp [rd,Zz]))
theorem n223 {α:Type}{A:Q3}{r:Nat}{s u sep:Bs}{lo:Bool}{one:Bs→Res α}{f:Nat}{big:α→Bool}{enc:α→AV}{fn:FuncId}{first cap:List AV}(hr:A r=some (rd s u lo))(hu:At s u)(hs:s.length≤20000)(hsep:sep≠[])(hf:u.length<f)
 (h1:∀A' u' lo',QK r A A'→A' r=some (rd s u' lo')→At s u'→u'.length≤u.length→Qt Tryz.prog G fn (first++cap) A' (Jo r s A' lo' big enc (one u')))(htk:Tk one)(hsz:∀a,(enc a).cells.length=5)(hone:∀a,(enc a).cells.all AV.one=true):
 Qt Tryz.prog G 223 [.ptr r 0,.str sep,.func (.func fn) first cap] A (Jo r s A lo (fun l=>l.any big) (Qy 5 fun a=>(enc a).cells) (ZV sep one f u)):=by
 refine Q4 l223 (fE rfl) ?_
 simp only[BS,QJ,seval]
 refine YM (by simpa using h1 A u lo (.refl _ _) hr hu (fG _)) (U2.refl _) fun x u1 hx=> ?_
 have b1:=htk _ _ _ _ hu hx
 simp only[QJ,seval]
 refine QY (cs:=(enc x).cells) (Jf _ _ (hsz x) (by decide)) fun t ht=> ?_
 obtain⟨htr,ht0⟩:=Q9 ht
 simp only[QJ,seval]
 refine Qv (fun n env ds A'=>∃(l:List α) (u':Bs) (t:Nat),n=u'.length∧env 0=.ptr r 0∧env 1=.str sep∧env 2=.func (.func fn) first cap∧env 7=.slice 5 l.length (l.flatMap fun a=>(enc a).cells) (some t)∧ds=[]∧At s u'∧u'.length≤u.length∧
  l.length+u'.length≤s.length∧t≠r∧A t=none∧A' r=some (rd s u' (lo||l.any big))∧A' t=some .tip∧QK r A A'∧∃f',u'.length<f'∧J9 sep one f [x] u1=J9 sep one f' l u') u1.length
  ⟨[x],u1,t,rfl,rfl,rfl,rfl,by simp [JH],rfl,b1.at',b1.beq.le,by have:=b1.lt;have:=hu.le;simp;omega,htr,ht0,by simp [Q3.upd,htr.symm],by simp,((QK.refl _ _).at _).tip htr ht,f,by have:=b1.lt;omega,rfl⟩ ?_
 rintro n env ds A' ⟨l,u',t,rfl,h0,h1',h2,h7,rfl,hu',hle,hlen,htr,ht0,hr',ht',hov,f',hf',hR⟩
 obtain⟨f',rfl⟩:∃m,f'=m+1:=⟨f' - 1,by omega⟩
 simp only[h0,h1',h2,h7,QJ,seval]
 refine Q2 (Tf G hr' hu' (by omega)) ?_
 rw[hR]
 by_cases hc:cur u'=sep
 ·have b2:=Beh.adv hu' hc hsep
  simp only[fA hc,fC hc,h0,h1',h2,h7,J9,QJ,seval]
  refine YM (by simpa using h1 _ (adv u') _ (hov.at _) (Q0 ..) b2.at' (by have:=b2.lt;omega)) (hov.at _).wk0 fun y u2 hy=> ?_
  have b3:=htk _ _ _ _ b2.at' hy
  simp only[h7,QJ,seval]
  refine QY (cs:=(enc y).cells) (Jf _ _ (hsz y) (by decide)) fun t2 ht2=> ?_
  obtain⟨e1,ht2⟩:=Q9 ht2
  have e2:t2≠t:=(Q6 ht' ht2).symm
  have hl3:=b3.lt
  have hl2:=b2.lt
  simp only[h7,ZB,V9,QJ,seval]
  refine⟨by simp [Q3.upd,htr,e2.symm,ht'],by omega,hone y,fun t3 ht3=> ?_⟩
  obtain⟨e3,ht3⟩:=Q9 ht3
  obtain⟨e4,ht3⟩:=Q9 ht3
  have e5:t3≠t:=(Q6 ht' ht3).symm
  refine⟨u2.length,by omega,l++[y],u2,t3,rfl,h0,h1',h2,by simp,b3.at',by omega,by simp;omega,e4,hov.gone e4 ht3,?_,by simp,?_,f',by omega,by simp only[hy,Q7]⟩
  ·simp [Q3.upd,htr.symm,e1.symm,e4.symm,dK]
  ·exact(((((hov.at _).tip e1 (by simpa[Q3.upd,e1]using ht2)).set ht0 (by simp))).set (hov.gone e4 ht3) (by simp))
 ·simp only[fB hc,fD hc,h0,h1',h2,h7,J9,QJ,seval]
  exact Kf Ym (hov.wk hr' (by intros;simp [rd,Zz]))
theorem n225 {α:Type}{A:Q3}{r:Nat}{s u sep:Bs}{lo:Bool}{one:Bs→Res α}{f:Nat}{big:α→Bool}{enc:α→AV}{fn:FuncId}{first cap:List AV}(hr:A r=some (rd s u lo))(hu:At s u)(hs:s.length≤20000)(hsep:sep≠[])(hf:u.length<f)
 (h1:∀A' u' lo',QK r A A'→A' r=some (rd s u' lo')→At s u'→u'.length≤u.length→Qt Tryz.prog G fn (first++cap) A' (Jo r s A' lo' big enc (one u')))(htk:Tk one)(hsz:∀a,(enc a).cells.length=2)(hone:∀a,(enc a).cells.all AV.one=true):
 Qt Tryz.prog G 225 [.ptr r 0,.str sep,.func (.func fn) first cap] A (Jo r s A lo (fun l=>l.any big) (Qy 2 fun a=>(enc a).cells) (ZV sep one f u)):=by
 refine Q4 l225 (fE rfl) ?_
 simp only[BQ,QJ,seval]
 refine YM (by simpa using h1 A u lo (.refl _ _) hr hu (fG _)) (U2.refl _) fun x u1 hx=> ?_
 have b1:=htk _ _ _ _ hu hx
 simp only[QJ,seval]
 refine QY (cs:=(enc x).cells) (Jf _ _ (hsz x) (by decide)) fun t ht=> ?_
 obtain⟨htr,ht0⟩:=Q9 ht
 simp only[QJ,seval]
 refine Qv (fun n env ds A'=>∃(l:List α) (u':Bs) (t:Nat),n=u'.length∧env 0=.ptr r 0∧env 1=.str sep∧env 2=.func (.func fn) first cap∧env 7=.slice 2 l.length (l.flatMap fun a=>(enc a).cells) (some t)∧ds=[]∧At s u'∧u'.length≤u.length∧
  l.length+u'.length≤s.length∧t≠r∧A t=none∧A' r=some (rd s u' (lo||l.any big))∧A' t=some .tip∧QK r A A'∧∃f',u'.length<f'∧J9 sep one f [x] u1=J9 sep one f' l u') u1.length
  ⟨[x],u1,t,rfl,rfl,rfl,rfl,by simp [JH],rfl,b1.at',b1.beq.le,by have:=b1.lt;have:=hu.le;simp;omega,htr,ht0,by simp [Q3.upd,htr.symm],by simp,((QK.refl _ _).at _).tip htr ht,f,by have:=b1.lt;omega,rfl⟩ ?_
 rintro n env ds A' ⟨l,u',t,rfl,h0,h1',h2,h7,rfl,hu',hle,hlen,htr,ht0,hr',ht',hov,f',hf',hR⟩
 obtain⟨f',rfl⟩:∃m,f'=m+1:=⟨f' - 1,by omega⟩
 simp only[h0,h1',h2,h7,QJ,seval]
 refine Q2 (Tf G hr' hu' (by omega)) ?_
 rw[hR]
 by_cases hc:cur u'=sep
 ·have b2:=Beh.adv hu' hc hsep
  simp only[fA hc,fC hc,h0,h1',h2,h7,J9,QJ,seval]
  refine YM (by simpa using h1 _ (adv u') _ (hov.at _) (Q0 ..) b2.at' (by have:=b2.lt;omega)) (hov.at _).wk0 fun y u2 hy=> ?_
  have b3:=htk _ _ _ _ b2.at' hy
  simp only[h7,QJ,seval]
  refine QY (cs:=(enc y).cells) (Jf _ _ (hsz y) (by decide)) fun t2 ht2=> ?_
  obtain⟨e1,ht2⟩:=Q9 ht2
  have e2:t2≠t:=(Q6 ht' ht2).symm
  have hl3:=b3.lt
  have hl2:=b2.lt
  simp only[h7,ZB,V9,QJ,seval]
  refine⟨by simp [Q3.upd,htr,e2.symm,ht'],by omega,hone y,fun t3 ht3=> ?_⟩
  obtain⟨e3,ht3⟩:=Q9 ht3
  obtain⟨e4,ht3⟩:=Q9 ht3
  have e5:t3≠t:=(Q6 ht' ht3).symm
  refine⟨u2.length,by omega,l++[y],u2,t3,rfl,h0,h1',h2,by simp,b3.at',by omega,by simp;omega,e4,hov.gone e4 ht3,?_,by simp,?_,f',by omega,by simp only[hy,Q7]⟩
  ·simp [Q3.upd,htr.symm,e1.symm,e4.symm,dK]
  ·exact(((((hov.at _).tip e1 (by simpa[Q3.upd,e1]using ht2)).set ht0 (by simp))).set (hov.gone e4 ht3) (by simp))
 ·simp only[fB hc,fD hc,h0,h1',h2,h7,J9,QJ,seval]
  exact Kf Ym (hov.wk hr' (by intros;simp [rd,Zz]))
theorem n252 {α:Type}{A:Q3}{r:Nat}{s u sep:Bs}{lo:Bool}{one:Bs→Res α}{f:Nat}{big:α→Bool}{enc:α→AV}{fn:FuncId}{first cap:List AV}(hr:A r=some (rd s u lo))(hu:At s u)(hs:s.length≤20000)(hsep:sep≠[])(hf:u.length<f)
 (h1:∀A' u' lo',QK r A A'→A' r=some (rd s u' lo')→At s u'→u'.length≤u.length→Qt Tryz.prog G fn (first++cap) A' (Jo r s A' lo' big enc (one u')))(htk:Tk one)(hsz:∀a,(enc a).cells.length=1)(hone:∀a,(enc a).cells.all AV.one=true):
 Qt Tryz.prog G 252 [.ptr r 0,.str sep,.func (.func fn) first cap] A (Jo r s A lo (fun l=>l.any big) (Qy 1 fun a=>(enc a).cells) (ZV sep one f u)):=by
 refine Q4 l252 (fE rfl) ?_
 simp only[Bz,QJ,seval]
 refine YM (by simpa using h1 A u lo (.refl _ _) hr hu (fG _)) (U2.refl _) fun x u1 hx=> ?_
 have b1:=htk _ _ _ _ hu hx
 simp only[QJ,seval]
 refine QY (cs:=(enc x).cells) (Jf _ _ (hsz x) (by decide)) fun t ht=> ?_
 obtain⟨htr,ht0⟩:=Q9 ht
 simp only[QJ,seval]
 refine Qv (fun n env ds A'=>∃(l:List α) (u':Bs) (t:Nat),n=u'.length∧env 0=.ptr r 0∧env 1=.str sep∧env 2=.func (.func fn) first cap∧env 7=.slice 1 l.length (l.flatMap fun a=>(enc a).cells) (some t)∧ds=[]∧At s u'∧u'.length≤u.length∧
  l.length+u'.length≤s.length∧t≠r∧A t=none∧A' r=some (rd s u' (lo||l.any big))∧A' t=some .tip∧QK r A A'∧∃f',u'.length<f'∧J9 sep one f [x] u1=J9 sep one f' l u') u1.length
  ⟨[x],u1,t,rfl,rfl,rfl,rfl,by simp [JH],rfl,b1.at',b1.beq.le,by have:=b1.lt;have:=hu.le;simp;omega,htr,ht0,by simp [Q3.upd,htr.symm],by simp,((QK.refl _ _).at _).tip htr ht,f,by have:=b1.lt;omega,rfl⟩ ?_
 rintro n env ds A' ⟨l,u',t,rfl,h0,h1',h2,h7,rfl,hu',hle,hlen,htr,ht0,hr',ht',hov,f',hf',hR⟩
 obtain⟨f',rfl⟩:∃m,f'=m+1:=⟨f' - 1,by omega⟩
 simp only[h0,h1',h2,h7,QJ,seval]
 refine Q2 (Tf G hr' hu' (by omega)) ?_
 rw[hR]
 by_cases hc:cur u'=sep
 ·have b2:=Beh.adv hu' hc hsep
  simp only[fA hc,fC hc,h0,h1',h2,h7,J9,QJ,seval]
  refine YM (by simpa using h1 _ (adv u') _ (hov.at _) (Q0 ..) b2.at' (by have:=b2.lt;omega)) (hov.at _).wk0 fun y u2 hy=> ?_
  have b3:=htk _ _ _ _ b2.at' hy
  simp only[h7,QJ,seval]
  refine QY (cs:=(enc y).cells) (Jf _ _ (hsz y) (by decide)) fun t2 ht2=> ?_
  obtain⟨e1,ht2⟩:=Q9 ht2
  have e2:t2≠t:=(Q6 ht' ht2).symm
  have hl3:=b3.lt
  have hl2:=b2.lt
  simp only[h7,ZB,V9,QJ,seval]
  refine⟨by simp [Q3.upd,htr,e2.symm,ht'],by omega,hone y,fun t3 ht3=> ?_⟩
  obtain⟨e3,ht3⟩:=Q9 ht3
  obtain⟨e4,ht3⟩:=Q9 ht3
  have e5:t3≠t:=(Q6 ht' ht3).symm
  refine⟨u2.length,by omega,l++[y],u2,t3,rfl,h0,h1',h2,by simp,b3.at',by omega,by simp;omega,e4,hov.gone e4 ht3,?_,by simp,?_,f',by omega,by simp only[hy,Q7]⟩
  ·simp [Q3.upd,htr.symm,e1.symm,e4.symm,dK]
  ·exact(((((hov.at _).tip e1 (by simpa[Q3.upd,e1]using ht2)).set ht0 (by simp))).set (hov.gone e4 ht3) (by simp))
 ·simp only[fB hc,fD hc,h0,h1',h2,h7,J9,QJ,seval]
  exact Kf Ym (hov.wk hr' (by intros;simp [rd,Zz]))
theorem n284 {α:Type}{A:Q3}{r:Nat}{s u sep:Bs}{lo:Bool}{one:Bs→Res α}{f:Nat}{big:α→Bool}{enc:α→AV}{fn:FuncId}{first cap:List AV}(hr:A r=some (rd s u lo))(hu:At s u)(hs:s.length≤20000)(hsep:sep≠[])(hf:u.length<f)
 (h1:∀A' u' lo',QK r A A'→A' r=some (rd s u' lo')→At s u'→u'.length≤u.length→Qt Tryz.prog G fn (first++cap) A' (Jo r s A' lo' big enc (one u')))(htk:Tk one)(hsz:∀a,(enc a).cells.length=1)(hone:∀a,(enc a).cells.all AV.one=true):
 Qt Tryz.prog G 284 [.ptr r 0,.str sep,.func (.func fn) first cap] A (Jo r s A lo (fun l=>l.any big) (Qy 1 fun a=>(enc a).cells) (ZV sep one f u)):=by
 refine Q4 l284 (fE rfl) ?_
 simp only[Bo,QJ,seval]
 refine YM (by simpa using h1 A u lo (.refl _ _) hr hu (fG _)) (U2.refl _) fun x u1 hx=> ?_
 have b1:=htk _ _ _ _ hu hx
 simp only[QJ,seval]
 refine QY (cs:=(enc x).cells) (Jf _ _ (hsz x) (by decide)) fun t ht=> ?_
 obtain⟨htr,ht0⟩:=Q9 ht
 simp only[QJ,seval]
 refine Qv (fun n env ds A'=>∃(l:List α) (u':Bs) (t:Nat),n=u'.length∧env 0=.ptr r 0∧env 1=.str sep∧env 2=.func (.func fn) first cap∧env 7=.slice 1 l.length (l.flatMap fun a=>(enc a).cells) (some t)∧ds=[]∧At s u'∧u'.length≤u.length∧
  l.length+u'.length≤s.length∧t≠r∧A t=none∧A' r=some (rd s u' (lo||l.any big))∧A' t=some .tip∧QK r A A'∧∃f',u'.length<f'∧J9 sep one f [x] u1=J9 sep one f' l u') u1.length
  ⟨[x],u1,t,rfl,rfl,rfl,rfl,by simp [JH],rfl,b1.at',b1.beq.le,by have:=b1.lt;have:=hu.le;simp;omega,htr,ht0,by simp [Q3.upd,htr.symm],by simp,((QK.refl _ _).at _).tip htr ht,f,by have:=b1.lt;omega,rfl⟩ ?_
 rintro n env ds A' ⟨l,u',t,rfl,h0,h1',h2,h7,rfl,hu',hle,hlen,htr,ht0,hr',ht',hov,f',hf',hR⟩
 obtain⟨f',rfl⟩:∃m,f'=m+1:=⟨f' - 1,by omega⟩
 simp only[h0,h1',h2,h7,QJ,seval]
 refine Q2 (Tf G hr' hu' (by omega)) ?_
 rw[hR]
 by_cases hc:cur u'=sep
 ·have b2:=Beh.adv hu' hc hsep
  simp only[fA hc,fC hc,h0,h1',h2,h7,J9,QJ,seval]
  refine YM (by simpa using h1 _ (adv u') _ (hov.at _) (Q0 ..) b2.at' (by have:=b2.lt;omega)) (hov.at _).wk0 fun y u2 hy=> ?_
  have b3:=htk _ _ _ _ b2.at' hy
  simp only[h7,QJ,seval]
  refine QY (cs:=(enc y).cells) (Jf _ _ (hsz y) (by decide)) fun t2 ht2=> ?_
  obtain⟨e1,ht2⟩:=Q9 ht2
  have e2:t2≠t:=(Q6 ht' ht2).symm
  have hl3:=b3.lt
  have hl2:=b2.lt
  simp only[h7,ZB,V9,QJ,seval]
  refine⟨by simp [Q3.upd,htr,e2.symm,ht'],by omega,hone y,fun t3 ht3=> ?_⟩
  obtain⟨e3,ht3⟩:=Q9 ht3
  obtain⟨e4,ht3⟩:=Q9 ht3
  have e5:t3≠t:=(Q6 ht' ht3).symm
  refine⟨u2.length,by omega,l++[y],u2,t3,rfl,h0,h1',h2,by simp,b3.at',by omega,by simp;omega,e4,hov.gone e4 ht3,?_,by simp,?_,f',by omega,by simp only[hy,Q7]⟩
  ·simp [Q3.upd,htr.symm,e1.symm,e4.symm,dK]
  ·exact(((((hov.at _).tip e1 (by simpa[Q3.upd,e1]using ht2)).set ht0 (by simp))).set (hov.gone e4 ht3) (by simp))
 ·simp only[fB hc,fD hc,h0,h1',h2,h7,J9,QJ,seval]
  exact Kf Ym (hov.wk hr' (by intros;simp [rd,Zz]))
end
open Go.RowKit
theorem RY (w:World)(k:Nat)(os:Array Obj):Below w.heap.size w (Sort.grow (w.drewN k) os):=
 ⟨rfl,rfl,rfl,by simp [Sort.grow,World.drewN],fun j hj=>by simp only[Sort.grow,World.drewN];rw[Array.getElem?_append_left (by simpa using hj)]⟩
structure Gl (G:Nat→Option (List AV)):Prop where
 syn:∃t v,G 4=some [.iface t v]
 rng:∃t v,G 5=some [.iface t v]
 pow:G 1=some (Lib.pow10Tab.map fun z=>.raw (.int .u64 z))
theorem Gl.cell {G:Nat→Option (List AV)}{κ:Kn}{A:Q3}{w:World}{g:Nat}(h:∃t v,G g=some [.iface t v])(hr:Rel G κ A w):∃ev,w.cell? ⟨g,0,none⟩=some ev∧∃te pe,ev=.iface te pe:=by
 obtain⟨t,v,hg⟩:=h
 have h1:=hr.glob g _ hg
 simp only[Zx]at h1
 obtain⟨⟨x,h2,h3⟩,_⟩:=h1
 simp only[Qc]at h3
 obtain⟨y,rfl,_⟩:=h3
 exact⟨_,hr.imm _ _ _ h2,_,_,rfl⟩
theorem Mv {κ:Kn}{A:Q3}{w:World}{G:Nat→Option (List AV)}(hr:Rel G κ A w){b:Nat}:∀(l:List Value) (o:Nat),Zx κ b (l.map .raw) o→∀i (h:i<l.length),w.cell? ⟨b,o+i,none⟩=some l[i]
 |[],_,_,i,h=>by simp at h
 |v::l,o,h,i,hi=>by
  simp only[cJ,Zx]at h
  obtain⟨⟨x,h1,h2⟩,h3⟩:=h
  cases i with
  |zero=>rw[Y0 h2]at h1;exact hr.imm _ _ _ h1
  |succ i=>
   have:=Mv hr l (o+1) h3 i (by simpa using hi)
   rw[show o+(i+1)=o+1+i from by omega]
   simpa using this
theorem Gl.tab {G:Nat→Option (List AV)}(hG:Gl G){κ:Kn}{A:Q3}{w:World}(hr:Rel G κ A w):Lib.TabIs Tryz.prog w "internal/strconv.uint64pow10" .u64 Lib.pow10Tab:=by
 obtain⟨⟨a,el,fr,h1,h2⟩,_⟩:=hr.gsz 1 _ hG.pow
 have h3:=hr.glob 1 _ hG.pow
 have e:(Lib.pow10Tab.map fun z=>AV.raw (.int .u64 z))=(Lib.pow10Tab.map fun z=>Value.int .u64 z).map AV.raw:=by simp
 rw[e]at h3
 have h4:=Mv hr _ _ h3
 have hg:Tryz.prog.globalNamed "internal/strconv.uint64pow10" =some 1:=by kernel_rfl
 unfold Lib.TabIs World.var?
 simp only[hg,Option.bind_some,h1]
 congr 1
 apply dN.1
 have hl:a.toList.length=Lib.pow10Tab.length:=by simpa using h2
 apply List.ext_getElem
 ·simpa using hl
 ·intro i p q
  have:=h4 i (by simpa[hl]using p)
  simp only[World.cell?,h1,lN]at this
  simp only[Array.getElem_toList,List.getElem_map]at*
  rw[Array.getElem?_eq_getElem (by simpa using p)]at this
  simpa using this
section
variable {G:Nat→Option (List AV)}(hG:Gl G)
include hG
theorem B7 (n:Int)(A:Q3)(h0: -9223372036854775808≤n)(h1:n≤9223372036854775807):Qu Tryz.prog G 107 [i64 n,i64 10] A (.str (Lib.itoa n)) A:=
 Xk (by kernel_rfl) fun κ w hr vs hvs=>by
  obtain⟨x,y,rfl,hx,hy⟩:=Xi hvs
  rw[Y0 hx,Y0 hy]
  refine(Tryz.strconv_FormatInt_10 n h0 h1 w (hG.tab hr)).mono ?_
  rintro e w' ⟨rfl,k,os,rfl⟩
  exact⟨RY w k os,_,rfl,by simp [Qc]⟩
def Cw (s:Bs)(o:Out):Prop:=∃n e,o=.ret (.tuple [i64 n,e])∧((e=.raw .nilIface∧Lib.parseIntB 64 s=.ok n)∨(e=.iface 285 (.iptr [])∧∀v,Lib.parseIntB 64 s≠ .ok v))
theorem B5 (s:Bs)(A:Q3)(hs:s.length≤20000):Qt Tryz.prog G 245 [.str s,i64 10,i64 64] A (fun o A'=>Cw s o∧A'=A):=
 Iv (by kernel_rfl) fun κ w hr vs hvs=>by
  obtain⟨x,y,z,rfl,hx,hy,hz⟩:=NW hvs
  rw[UF hx,Y0 hy,Y0 hz]
  have hsz:(⟨s.toArray⟩:ByteArray).size=s.length:=by simp [ByteArray.size]
  rcases h:Lib.parseIntB 64 s with v|_|_
  ·refine(Tryz.strconv_ParseInt_10_at64_ok ⟨s.toArray⟩ (by rw[hsz];omega) v h w).mono ?_
   rintro e w' ⟨rfl,hw⟩
   refine⟨?_,.ret (.tuple [i64 v,.raw .nilIface]),⟨_,rfl,?_⟩,⟨v,_,rfl,.inl ⟨rfl,h⟩⟩,rfl⟩
   ·rcases hw with rfl|⟨t,rfl⟩
    ·exact .refl _ _
    ·exact⟨rfl,rfl,rfl,by rw[Lib.bytesWorld_size];omega,fun j hj=>Lib.bytesWorld_at_old w 5 t j hj⟩
   ·simp [Qc,Qi]
  ·obtain⟨ev,he1,he2⟩:=Gl.cell hG.syn hr
   refine(Tryz.strconv_ParseInt_10_at64_bad ⟨s.toArray⟩ (by rw[hsz];omega) (fun v e=>by have:=h.symm.trans e;cases this) (fun e=>by have:=h.symm.trans e;cases this) ev w he1 (.inr he2)).mono ?_
   rintro e w' ⟨N,rfl,_,_,hb⟩
   refine⟨hb,.ret (.tuple [i64 0,.iface 285 (.iptr [])]),⟨_,rfl,?_⟩,⟨0,_,rfl,.inr ⟨rfl,by rw[h];simp⟩⟩,rfl⟩
   simp only[Qc,Qi,Zx]
   exact⟨_,rfl,_,_,rfl,rfl,_,_,rfl,⟨_,rfl,_,_,rfl,trivial⟩,rfl⟩
  ·obtain⟨ev,he1,he2⟩:=Gl.cell hG.rng hr
   refine(Tryz.strconv_ParseInt_10_at64_range ⟨s.toArray⟩ (by rw[hsz];omega) h ev w he1 (.inr he2)).mono ?_
   rintro e w' ⟨N,rfl,_,_,hb⟩
   refine⟨hb,.ret (.tuple [i64 (Lib.intSat 64 s),.iface 285 (.iptr [])]),⟨_,rfl,?_⟩,⟨_,_,rfl,.inr ⟨rfl,by rw[h];simp⟩⟩,rfl⟩
   simp only[Qc,Qi,Zx]
   exact⟨_,rfl,_,_,rfl,rfl,_,_,rfl,⟨_,rfl,_,_,rfl,trivial⟩,rfl⟩
end
def W1 (n:Nat)(l:Bs):Nat:=l.foldl (fun n c=>10*n+(c.toNat - 48)) n
theorem Lu:∀(l:Bs) (n:Nat),n≤W1 n l
 |[],n=>fG _
 |c::l,n=>fI (by omega) (Lu l (10*n+(c.toNat - 48)))
theorem Kc:∀(l:Bs) (n:Nat),l.all ZX=true→n≤18446744073709551615→
 (W1 n l≤18446744073709551615∧Lib.parseUintM 18446744073709551615 n l=.ok (W1 n l))∨(18446744073709551615<W1 n l∧Lib.parseUintM 18446744073709551615 n l=.range)
 |[],n,_,hn=>.inl ⟨hn,rfl⟩
 |c::l,n,h,hn=>by
  simp only[dU,cD]at h
  have hc:48≤c.toNat∧c.toNat≤57:=by simpa[ZX]using h.1
  have hle:=Lu l (10*n+(c.toNat - 48))
  have e:W1 n (c::l)=W1 (10*n+(c.toNat - 48)) l:=rfl
  rw[e]
  simp only[Lib.parseUintM,fC hc]
  have e2:n*10+(c.toNat - 48)=10*n+(c.toNat - 48):=by omega
  split
  ·exact .inr ⟨by omega,rfl⟩
  ·rw[e2]
   split
   ·exact .inr ⟨by omega,rfl⟩
   ·exact Kc l _ h.2 (by omega)
theorem I1 {l:Bs}(hne:l≠[])(h:l.all ZX=true):
 (Vj l<9223372036854775808∧Lib.parseIntB 64 l=.ok (Vj l))∨(9223372036854775808≤Vj l∧Lib.parseIntB 64 l=.range):=by
 obtain⟨c,r,rfl⟩:=List.exists_cons_of_ne_nil hne
 have h':=h
 simp only[dU,cD]at h
 have hc:48≤c.toNat∧c.toNat≤57:=by simpa[ZX]using h.1
 have hU:=Kc (c::r) 0 h' (by omega)
 rw[Lib.parseIntB_plain 64 c r (by omega) (by omega)]
 have e:Lib.parseUintB 64 (c::r)=Lib.parseUintM 18446744073709551615 0 (c::r):=by
  simp only[Lib.parseUintB];rw[fD (by simp)]
 rw[e]
 have e2:Vj (c::r)=W1 0 (c::r):=rfl
 rw[e2]
 rcases hU with⟨h1,h2⟩|⟨h1,h2⟩
 ·rw[h2]
  simp only[Lib.signlessC]
  by_cases h3:(2:Nat)^(64 - 1)≤W1 0 (c::r)
  ·exact .inr ⟨by simpa using h3,by simp at h3;simp [h3]⟩
  ·exact .inl ⟨by simpa using h3,by simp at h3;simp;omega⟩
 ·rw[h2]
  exact .inr ⟨by omega,rfl⟩
end Go.Proofs.YtcbjbgaefighcaaGreatDoor
namespace Go.Proofs.YtcbjbgaefighcaaGreatDoor
open Go Go.Ax Go.Proofs
theorem IS {c:UInt8}{r:Bs}:∃t,cur (c::r)=c::t:=by
 have:=TF (u:=c::r) (by simp)
 obtain⟨k,hk⟩:∃k,Z4 (c::r)=k+1:=⟨Z4 (c::r) - 1,by omega⟩
 exact⟨r.take k,by simp [cur,hk]⟩
theorem Ln {c:UInt8}(h:ZX c=true):Y1 c=false:=by
 have:48≤c.toNat∧c.toNat≤57:=by simpa[ZX]using h
 simp only[Y1,lF];omega
theorem Ir {f:UInt8→Bool}:∀(l:Bs),l.take (l.takeWhile f).length=l.takeWhile f
 |[]=>rfl
 |c::l=>by
  cases h:f c with
  |true=>rw[List.takeWhile_cons_of_pos h,cE,List.take_succ_cons,Ir l]
  |false=>rw[List.takeWhile_cons_of_neg (by simp [h])];rfl
theorem Ct {u:Bs}(h:JP u=true):cur u=u.takeWhile ZX:=by
 match u,h with
 |c::r,h=>
  have hd:ZX c=true:=h
  simp only[cur,Z4,Ln hd,hd,if_true,cB,if_false]
  exact Ir _
theorem IZ {u:Bs}(h:JP u=true):(cur u).all ZX=true:=by
 rw[Ct h];exact List.all_takeWhile
theorem LY {s u:Bs}(hu:At s u):(cur u).length≤s.length:=by
 have:=hu.le
 simp only[cur,lJ];omega
section
variable (G:Nat→Option (List AV))
theorem YV {A:Q3}{r:Nat}{s u w:Bs}{lo:Bool}(hr:A r=some (rd s u lo))(hu:At s u)(hs:s.length≤20000):
 Qu Tryz.prog G 87 [.ptr r 0,.str w] A (bo (decide (cur u=w))) (A.upd r (some (rd s (if cur u=w then adv u else u) lo))):=by
 have:=Tf G hr hu (w:=w) (by omega)
 by_cases h:cur u=w
 ·simpa[h]using this
 ·simp only[h,if_false,decide_false]at this⊢
  rwa [YP hr]
theorem W9 (hG:Gl G){A:Q3}{r:Nat}{s u:Bs}{lo:Bool}(hr:A r=some (rd s u lo))(hu:At s u)(hs:s.length≤20000):
 Qt Tryz.prog G 212 [.ptr r 0] A (Jo r s A lo Zs i64 (JK u)):=by
 refine Q4 l212 (fE rfl) ?_
 simp only[A7,QJ,seval]
 refine Q2 (YV G hr hu hs) ?_
 obtain⟨neg,u1,hu1,hp,hneg,hu1'⟩:∃neg u1,At s u1∧JK u=JW neg u1∧decide (cur u=[45])=neg∧(if cur u=[45]then adv u else u)=u1:=by
  by_cases h:cur u=[45]
  ·exact⟨true,adv u,hu.adv,by simp [JK,YI,h],by simp [h],by simp [h]⟩
  ·exact⟨false,u,hu,by simp [JK,YI,h],by simp [h],by simp [h]⟩
 rw[hneg,hu1',hp]
 have hr1:(A.upd r (some (rd s u1 lo))) r=some (rd s u1 lo):=Q0 ..
 have hbad:∀{env l st},JW neg u1=.bad u1→(Cx.of Tryz.prog G false [.tmp 2] (Jo r s A lo Zs i64 (JW neg u1))).call (.func (.func 89) [] []) [.ptr r 0] (some 50) l st env [] (A.upd r (some (rd s u1 lo))):=by
  intro env l st he
  rw[he]
  exact YM (R:=.bad u1) (k:=fun(a:Int) u=>.ok a u) (PX (enc:=i64) (lo0:=lo) (big:=Zs) G hr1) (by rw[QZ];exact U2.refl _) (fun _ _ h=>by cases h)
 simp only[QJ,seval]
 refine Q2 (KN G hr1 hu1) ?_
 simp only[QJ,seval]
 refine Qk (B5 hG (cur u1) _ (by have:=LY hu1;omega)) ?_
 rintro o A' ⟨⟨n,e,rfl,he⟩,rfl⟩
 cases hn:JP u1 with
 |false=>
  have hb:JW neg u1=.bad u1:=by simp [JW,hn]
  simp only[QJ,seval]
  refine⟨fun h=>hbad hb,fun h=> ?_⟩
  obtain⟨c,r',rfl⟩:∃c r',u1=c::r':=by
   cases u1 with
   |nil=>exact absurd rfl h
   |cons c r'=>exact⟨c,r',rfl⟩
  obtain⟨t,ht⟩:=IS (c:=c) (r:=r')
  rw[ht]
  refine JY (v:=u8 c) (by simp) ?_
  simp only[QJ,seval]
  refine Q2 (Sa G c _) ?_
  have hc:ZX c=false:=hn
  simp only[hc,QJ,seval]
  exact hbad hb
 |true=>
  simp only[QJ,seval]
  obtain⟨c,r',rfl⟩:∃c r',u1=c::r':=by
   cases u1 with
   |nil=>cases hn
   |cons c r'=>exact⟨c,r',rfl⟩
  have hc:ZX c=true:=hn
  obtain⟨t,ht⟩:=IS (c:=c) (r:=r')
  refine⟨fun h=>(by rw[ht]at h;cases h),fun h=> ?_⟩
  have hpn:JW neg (c::r')=if 2147483648<Vj (cur (c::r'))∨(1<(cur (c::r')).length∧(cur (c::r')).head?=some 48)∨(neg=true∧Vj (cur (c::r'))=0)then .bad (c::r')else .ok (if neg then -(Vj (cur (c::r')):Int)else Vj (cur (c::r'))) (adv (c::r')):=by
   simp only[JW,hn,if_true]
  have hd:=I1 h (IZ hn)
  generalize hD:Vj (cur (c::r'))=D at hpn hd
  rw[ht]at hd he hpn h⊢
  refine JY (v:=u8 c) (by simp) ?_
  simp only[QJ,seval]
  refine Q2 (Sa G c _) ?_
  simp only[hc,QJ,seval]
  rcases he with⟨rfl,he⟩|⟨rfl,he⟩
  ·have hn':D<9223372036854775808∧n=D:=by
    rcases hd with⟨h1,h2⟩|⟨h1,h2⟩
    ·rw[h2]at he;cases he;exact⟨h1,rfl⟩
    ·rw[h2]at he;cases he
   obtain⟨hD63,rfl⟩:=hn'
   have h48:((c.toNat:Int)=48)↔(c::t).head?=some 48:=by
    simp only[List.head?_cons,cA]
    constructor
    ·intro h;apply UInt8.toNat_inj.1;show c.toNat=48;omega
    ·rintro rfl;rfl
   simp only[←h48,cE]at hpn
   have hr2:=QZ A r (some (rd s (c::r') lo)) (some (rd s (adv (c::r')) lo))
   cases neg
   ·have hno:(2147483648<D∨(1<t.length+1∧(c.toNat:Int)=48))→JW false (c::r')=.bad (c::r'):=fun h1=>by rw[hpn,fC (by omega)]
    have hfin:¬(2147483648<D∨(1<t.length+1∧(c.toNat:Int)=48))→JW false (c::r')=.ok D (adv (c::r')):=fun h1=>by rw[hpn,fD (by simp;omega)];rfl
    simp only[QJ,seval]
    refine⟨fun h2=>hbad (hno (by omega)),fun h2=>⟨fun h3=>⟨fun h4=>hbad (hno (by omega)),fun h4=> ?_⟩,fun h3=> ?_⟩⟩
    all_goals
     rw[hfin (by omega)]
     refine Q2 (W6 G hr1 hu1 (by omega)) ?_
     simp only[QJ,seval]
     exact Kf (Wk.refl _) (by rw[Qp];exact U2.refl _)
   ·have hno:(2147483648<D∨(1<t.length+1∧(c.toNat:Int)=48)∨D=0)→JW true (c::r')=.bad (c::r'):=fun h1=>by rw[hpn,fC (by simp;omega)]
    have hfin:¬(2147483648<D∨(1<t.length+1∧(c.toNat:Int)=48)∨D=0)→JW true (c::r')=.ok (-D) (adv (c::r')):=fun h1=>by rw[hpn,fD (by simp;omega)];rfl
    have hw:D≤2147483648→IntKind.i64.wrap (0 - (D:Int))= -(D:Int):=fun h=>by rw[Qg (by omega) (by omega)];omega
    simp only[QJ,seval]
    refine⟨fun h2=>hbad (hno (by omega)),fun h2=>⟨fun h3=>⟨fun h4=>hbad (hno (by omega)),fun h4=>⟨fun h5=>hbad (hno (by omega)),fun h5=> ?_⟩⟩,fun h3=>⟨fun h5=>hbad (hno (by omega)),fun h5=> ?_⟩⟩⟩
    all_goals
     rw[hfin (by omega)]
     refine Q2 (W6 G hr1 hu1 (by omega)) ?_
     simp only[hw (by omega),QJ,seval]
     exact Kf (Wk.refl _) (by rw[Qp];exact U2.refl _)
  ·simp only[QJ,seval]
   refine hbad ?_
   have:9223372036854775808≤D:=by
    rcases hd with⟨h1,h2⟩|⟨h1,h2⟩
    ·exact absurd h2 (he _)
    ·exact h1
   rw[hpn,fC (.inl (by omega))]
end
end Go.Proofs.YtcbjbgaefighcaaGreatDoor
