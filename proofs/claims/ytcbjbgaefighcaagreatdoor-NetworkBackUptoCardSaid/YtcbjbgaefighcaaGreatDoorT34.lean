/- Part 34 of the proof. -/
import Derived.Test.YtcbjbgaefighcaaGreatDoorT0
import Derived.Test.YtcbjbgaefighcaaGreatDoorT4
import Derived.Test.YtcbjbgaefighcaaGreatDoorT7
import Derived.Test.YtcbjbgaefighcaaGreatDoorT11
import Derived.Test.YtcbjbgaefighcaaGreatDoorT25
import Derived.Test.YtcbjbgaefighcaaGreatDoorT26
import Derived.Test.YtcbjbgaefighcaaGreatDoorT30
import Derived.Test.YtcbjbgaefighcaaGreatDoorT31
import Derived.Test.YtcbjbgaefighcaaGreatDoorT32
import Derived.Test.YtcbjbgaefighcaaGreatDoorT33
import Derived.KernelRfl
import Derived.Test.YtcbjbgaefighcaaGreatDoorProg
import Derived.OpenShut
import Derived.Deep.Slices
import Derived.Test.YtcbjbgaefighcaaGreatDoorRows
set_option linter.all false
namespace Go.Proofs.YtcbjbgaefighcaaGreatDoor
open Go Go.Ax Go.Ax.K Go.Proofs
mutual
def Te:Exp→Prop
 | .mk _ _ _ xs=>xs.length≤2097152∧LE xs
def LE:List Exp→Prop
 |[]=>True
 |x::xs=>Te x∧LE xs
end
theorem Fc:∀{xs:List Exp},LE xs→∀x∈xs,Te x
 |y::ys,h,x,hx=>by
  simp only[LE]at h
  rcases dT.1 hx with rfl|hx
  ·exact h.1
  ·exact Fc h.2 x hx
theorem EW {A B:Q3}{no:List Nat}:Tips A no [none] B:={
 tip:=fun i t h=>by
  match i,h with
  |0,h=>cases h
 inj:=fun i j t h=>by
  match i,h with
  |0,h=>cases h}
def SlW {α:Type}(sz:Nat)(enc:α→List AV)(l:List α)(v:AV)(τ:Option Nat):Prop:=(v=.raw (.slice none 0 0)∧l=[]∧τ=none)∨∃t cs,v=.slice sz l.length cs (some t)∧τ=some t∧Xy cs (l.flatMap enc)
theorem SlW.one {α:Type}{sz:Nat}{enc:α→List AV}{l:List α}{v:AV}{τ:Option Nat}(h:SlW sz enc l v τ):v.one=true:=by
 rcases h with⟨rfl,_⟩|⟨t,cs,rfl,_⟩ <;> rfl
theorem SlW.cells {α:Type}{sz:Nat}{enc:α→List AV}{l:List α}{v:AV}{τ:Option Nat}(h:SlW sz enc l v τ):v.cells=[v]:=by
 rcases h with⟨rfl,_⟩|⟨t,cs,rfl,_⟩ <;> rfl
theorem SlW.wk {α:Type}{sz:Nat}{enc:α→List AV}{l:List α}{v:AV}{τ:Option Nat}(h:SlW sz enc l v τ):Wk v (Qy sz enc l):=by
 rcases h with⟨rfl,rfl,_⟩|⟨t,cs,rfl,_,h⟩
 ·exact Jm
 ·exact T0 h
section
variable {C:Cx}{α:Type}{A B:Q3}{no:List Nat}{T:List (Option Nat)}{sz bytes:Nat}{enc:α→List AV}{x:List α}{v:AV}{τ:Option Nat}{d:Option Nat}{l:List LInstr}{st:List Fr}{env:Qo}{ds:List QU}
theorem Cv {y:α}{cy:List AV}(hv:SlW sz enc x v τ)(hT:Tips A no T B){i:Nat}(hi:T[i]? =some τ)(ho:Z7 A B)(hno:∀k∈no,∃o,B k=some o)(hb:(x.length+1)*bytes≤140737488355328)(hone:cy.all AV.one=true)(hw:Xy cy (enc y))
 (hk:∀v' τ' B',SlW sz enc (x++[y]) v' τ'→Tips A no (T.set i τ') B'→Z7 A B'→(∀k o,B k=some o→o≠ .tip→B' k=some o)→C.ops l st (putD env d v') ds B'):
 C.app (some (1,cy)) sz bytes v d l st env ds B:=by
 have hil:i<T.length:=by rw[fO]at hi;exact hi.1
 rcases hv with⟨rfl,rfl,rfl⟩|⟨t,cs,rfl,rfl,h⟩
 ·rw[W2,fD (by decide)]
  refine⟨by simp at hb;omega,fun t ht=>hk _ (some t) _ (.inr ⟨t,cy,by simp,rfl,by simpa using hw⟩) (hT.app0 hil ht (ho.gone ht) ?_) (ho.set (ho.gone ht) (by simp)) ?_⟩
  ·intro hm
   obtain⟨o,h⟩:=hno t hm
   rw[ht]at h;cases h
  ·intro k o h1 h2
   rw[Q5 (fun e=>by rw[e,ht]at h1;cases h1),h1]
 ·rw[V9]
  obtain⟨k1,k2,k3⟩:=hT.tip i t hi
  refine⟨rfl,k3,hb,hone,fun t' ht=>hk _ (some t') _ (.inr ⟨t',cs++cy,by simp,rfl,by simpa using H2 h hw⟩) (hT.app hil hi ht (ho.gone ht) ?_) ((ho.set k1 (by simp)).set (ho.gone ht) (by simp)) ?_⟩
  ·intro hm
   obtain⟨o,h⟩:=hno t' hm
   rw[ht]at h;cases h
  ·intro k o h1 h2
   rw[Q5 (fun e=>by rw[e,ht]at h1;cases h1),Q5 (fun e=>by rw[e,k3]at h1;cases h1;exact h2 rfl),h1]
theorem lit_tip {z:List Value}(hT:Tips A no T B){i:Nat}(hi:i<T.length)(ho:Z7 A B)(hno:∀k∈no,∃o,B k=some o)
 (hk:∀t B',Tips A no (T.set i (some t)) B'→Z7 A B'→(∀k o,B k=some o→B' k=some o)→C.ops l st (putD env d (.slice sz 0 [] (some t))) ds B'):C.sl (Xz sz 0 z []) sz 0 d l st env ds B:=by
 refine QY (cs:=[]) (by simp [Xz,VP]) fun t ht=>hk t _ (hT.app0 hi ht (ho.gone ht) ?_) (ho.set (ho.gone ht) (by simp)) ?_
 ·intro hm
  obtain⟨o,h⟩:=hno t hm
  rw[ht]at h;cases h
 ·intro k o h1
  rw[Q5 (fun e=>by rw[e,ht]at h1;cases h1),h1]
theorem app_lit {m t:Nat}{cs:List AV}(hT:Tips A no T B){i:Nat}(hi:T[i]? =some (some t))(ho:Z7 A B)(hno:∀k∈no,∃o,B k=some o)(hb:m*bytes≤140737488355328)(hone:cs.all AV.one=true)
 (hk:∀t' B',Tips A no (T.set i (some t')) B'→Z7 A B'→(∀k o,B k=some o→o≠ .tip→B' k=some o)→C.ops l st (putD env d (.slice sz m cs (some t'))) ds B'):
 C.app (some (m,cs)) sz bytes (.slice sz 0 [] (some t)) d l st env ds B:=by
 have hil:i<T.length:=by rw[fO]at hi;exact hi.1
 rw[V9]
 obtain⟨k1,k2,k3⟩:=hT.tip i t hi
 refine⟨rfl,k3,by simpa using hb,hone,fun t' ht=> ?_⟩
 have:=hk t' _ (hT.app hil hi ht (ho.gone ht) ?_) ((ho.set k1 (by simp)).set (ho.gone ht) (by simp)) ?_
 ·simpa using this
 ·intro hm
  obtain⟨o,h⟩:=hno t' hm
  rw[ht]at h;cases h
 ·intro k o h1 h2
  rw[Q5 (fun e=>by rw[e,ht]at h1;cases h1),Q5 (fun e=>by rw[e,k3]at h1;cases h1;exact h2 rfl),h1]
end
theorem vV {A B:Q3}{no:List Nat}{τ:Option Nat}{n:Nat}(h:Tips A no [τ] B):Tips A no (τ::List.replicate n none) B:={
 tip:=fun i t ht=>by
  match i,ht with
  |0,ht=>exact h.tip 0 t ht
  |i+1,ht=>simp [List.getElem?_replicate]at ht
 inj:=fun i j t h1 h2=>by
  match i,j,h1,h2 with
  |0,0,_,_=>rfl
  |i+1,_,h1,_=>simp [List.getElem?_replicate]at h1
  |0,j+1,_,h2=>simp [List.getElem?_replicate]at h2}
theorem kH {A B:Q3}{no:List Nat}{τ:Option Nat}{T:List (Option Nat)}(h:Tips A no (τ::T) B):Tips A no [τ] B:={
 tip:=fun i t ht=>by
  match i,ht with
  |0,ht=>exact h.tip 0 t ht
 inj:=fun i j t h1 h2=>by
  match i,j,h1,h2 with
  |0,0,_,_=>rfl}
theorem Ea {α:Type}{enc:α→List AV}(h:∀x,(enc x).all AV.one=true):∀{xs:List α},(xs.flatMap enc).all AV.one=true
 |[]=>rfl
 |x::xs=>by rw[dD,fK,h x,Ea h];rfl
theorem vW {A B:Q3}{no:List Nat}{T:List (Option Nat)}(h:Tips A no T B)(i:Nat):Tips A no (T.set i none) B:={
 tip:=fun j t ht=>by
  rw[List.getElem?_set]at ht
  split at ht
  ·split at ht <;> simp at ht
  ·exact h.tip j t ht
 inj:=fun j k t h1 h2=>by
  rw[List.getElem?_set]at h1 h2
  split at h1
  ·split at h1 <;> simp at h1
  ·split at h2
   ·split at h2 <;> simp at h2
   ·exact h.inj j k t h1 h2}
theorem upd_id {B:Q3}{d:Nat}{x:Option AObj}(h:B d=x):B.upd d x=B:=by
 funext k
 by_cases e:k=d
 ·subst e;rw[Q0,h]
 ·rw[Q5 e]
mutual
def smS:Stmt→Prop
 | .mk _ _ v b e=>Te v∧b.length≤2097152∧e.length≤2097152∧Og b∧Og e
def Og:List Stmt→Prop
 |[]=>True
 |x::xs=>smS x∧Og xs
end
theorem Fb:∀{xs:List Stmt},Og xs→∀x∈xs,smS x
 |y::ys,h,x,hx=>by
  simp only[Og]at h
  rcases dT.1 hx with rfl|hx
  ·exact h.1
  ·exact Fb h.2 x hx
def smF (f:Func):Prop:=f.params.length≤2097152∧f.body.length≤2097152∧Og f.body
def CA (x:Edge):Prop:=x.tests.length≤2097152∧Te x.cond∧x.sets.length≤2097152∧(∀a∈x.sets,Te a.val)∧x.clears.length≤2097152
def smP (x:Proc):Prop:=x.locs.length≤2097152∧(∀l∈x.locs,l.inv.length≤2097152)∧x.edges.length≤2097152∧∀y∈x.edges,CA y
structure SmM (m:Model):Prop where
 clocks:m.clocks.length≤2097152
 vars:m.vars.length≤2097152
 chans:m.chans.length≤2097152
 funcs:m.funcs.length≤2097152
 func:∀f∈m.funcs,smF f
 procs:m.procs.length≤2097152
 proc:∀x∈m.procs,smP x
def C8:LC:=.seq (.ops [o 0 (mc (.bool false))])<|.seq (.ops [⟨some 10,ca 9 [.const (.string ⟨#[109,111,100,101,108,32,109,59,32,99,108,111,99,107,32,120,59,32,112,114,111,99,101,115,115,32,80,32,105,110,105,116,32,65,32,123,32,108,111,99,32,65,32,105,110,118,32,120,32,60,61,32,50,59,32,101,100,103,101,32,65,32,45,62,32,65,32,119,104,101,110,32,120,32,61,61,32,50,32,114,101,115,101,116,32,120,32,61,32,48,59,32,125]⟩)],none⟩,o 9 (mv 10),o 11 (.ext (t 9) 0),o 12 (.ext (t 9) 1),o 13 (.ext (t 9) 2),⟨some 1,.alloc 29 [.string ⟨#[]⟩,.slice none 0 0,.slice none 0 0,.slice none 0 0,.slice none 0 0,.slice none 0 0],none⟩,e (.store 6 (t 1) (t 11)),o 2 (mv 12),o 3 (mv 13)])<|.seq (.ops [o 15 (la 6 1),o 16 (ca 14 [t 15]),o 14 (mv 16),o 17 (.ext (t 14) 0),o 18 (.ext (t 14) 1),o 4 (mv 17),o 5 (mv 18)])<|.seq (.ops [⟨some 20,ca 9 [.const (.string ⟨#[109,111,100,101,108,32,109,59,32,118,97,114,32,118,32,105,110,32,49,46,46,50,59]⟩)],none⟩,o 19 (mv 20),o 21 (.ext (t 19) 0),o 22 (.ext (t 19) 1),o 23 (.ext (t 19) 2),⟨some 6,.alloc 29 [.string ⟨#[]⟩,.slice none 0 0,.slice none 0 0,.slice none 0 0,.slice none 0 0,.slice none 0 0],none⟩,e (.store 6 (t 6) (t 21)),o 7 (mv 22),o 8 (mv 23)])<|.seq (.ops [o 24 (mv 3),o 25 (bk .eql 24 (0)),o 26 (mv 25),gt 26 27 (mv 2),gt 26 28 (bk .eql 27 (0)),o 29 (pa 26 28),o 30 (mv 29),gt 30 31 (mv 5),gt 30 32 (bk .eql 31 (0)),o 33 (pa 30 32),o 34 (mv 33),gt 34 35 (mv 4),⟨some 36,.bin .eql .num (t 35) (.const (.string ⟨#[109,111,100,101,108,32,109,59,10,99,108,111,99,107,32,120,59,10,112,114,111,99,101,115,115,32,80,32,105,110,105,116,32,65,32,123,10,9,108,111,99,32,65,32,105,110,118,32,120,32,60,61,32,50,59,10,9,101,100,103,101,32,65,32,45,62,32,65,32,119,104,101,110,32,120,32,60,61,32,50,32,38,38,32,120,32,62,61,32,50,32,114,101,115,101,116,32,120,32,61,32,48,59,10,125,10]⟩)),some (34,true)⟩,o 37 (pa 34 36),o 38 (mv 37),gt 38 39 (mv 8),gt 38 40 (bk .eql 39 (80)),o 41 (pa 38 40),o 42 (mv 41),gt 42 43 (mv 7),gt 42 44 (bk .eql 43 (22)),o 45 (pa 42 44),o 46 (mv 45),gt 46 47 (la 6 1),gt 46 48 (ca 16 [t 47]),gt 46 49 (bk .eql 48 (0)),o 50 (pa 46 49),o 51 (mv 50),gt 51 52 (la 6 1),gt 51 53 (la 6 1),gt 51 54 (ca 18 [t 52,t 53]),o 55 (pa 51 54),o 56 (mv 55),gt 56 57 (la 6 1),⟨some 58,.build [.string ⟨#[]⟩,.slice none 0 0,.slice none 0 0,.slice none 0 0,.slice none 0 0,.slice none 0 0] [],some (56,true)⟩,gt 56 59 (ca 18 [t 57,t 58]),gt 56 60 (.un .not (t 59)),o 61 (pa 56 60),o 62 (mv 61),⟨some 63,.build [.string ⟨#[]⟩,.slice none 0 0,.slice none 0 0,.slice none 0 0,.slice none 0 0,.slice none 0 0] [],some (62,true)⟩,gt 62 64 (ca 16 [t 63]),gt 62 65 (bk .eql 64 (2)),o 66 (pa 62 65),o 0 (mv 66)])<|.ret
theorem l8:Q8 Tryz.prog 8=some ⟨67,false,[.tmp 0],C8⟩:=by kernel_rfl
end Go.Proofs.YtcbjbgaefighcaaGreatDoor
namespace Go.Proofs.YtcbjbgaefighcaaGreatDoor
open Go Go.Ax Go.Proofs
def ex1:Bs:=[109,111,100,101,108,32,109,59,32,99,108,111,99,107,32,120,59,32,112,114,111,99,101,115,115,32,80,32,105,110,105,116,32,65,32,123,32,108,111,99,32,65,32,105,110,118,32,120,32,60,61,32,50,59,32,101,100,103,101,32,65,32,45,62,32,65,32,119,104,101,110,32,120,32,61,61,32,50,32,114,101,115,101,116,32,120,32,61,32,48,59,32,125]
def ex2:Bs:=[109,111,100,101,108,32,109,59,32,118,97,114,32,118,32,105,110,32,49,46,46,50,59]
def ex3:Bs:=[109,111,100,101,108,32,109,59,10,99,108,111,99,107,32,120,59,10,112,114,111,99,101,115,115,32,80,32,105,110,105,116,32,65,32,123,10,9,108,111,99,32,65,32,105,110,118,32,120,32,60,61,32,50,59,10,9,101,100,103,101,32,65,32,45,62,32,65,32,119,104,101,110,32,120,32,60,61,32,50,32,38,38,32,120,32,62,61,32,50,32,114,101,115,101,116,32,120,32,61,32,48,59,10,125,10]
def O6:Model:=⟨[109],[[120]],[],[],[],[⟨[80],[65],[⟨[65],0,[⟨[120],false,false,2⟩],0⟩],[⟨[65],[65],[⟨[120],false,false,2⟩,⟨[120],true,false,2⟩],.mk 0 [] 0 [],[],false,[],[⟨[120],0⟩],0,0⟩]⟩]⟩
theorem vN:U5 1000 ex1=(O6,0,0):=by kernel_rfl
theorem vM:U5 1000 ex2=(Wr,22,80):=by kernel_rfl
theorem B9:Vo O6=0:=by kernel_rfl
theorem ex_t:X0 O6=ex3:=by kernel_rfl
theorem ex_s:Yg O6 O6=true:=by kernel_rfl
theorem ex_n:Yg O6 Wr=false:=by kernel_rfl
theorem ex_g:Vo Wr=2:=by kernel_rfl
theorem Vy {α:Type}{p:α→α→Bool}:∀{xs ys:List α},(∀x∈xs,∀y,p x y=true↔x=y)→(Zt p xs ys=true↔xs=ys)
 |[],[],_=>by simp [Zt]
 |[],_::_,_=>by simp [Zt]
 |_::_,[],_=>by simp [Zt]
 |x::xs,y::ys,h=>by
  simp only[Zt,cD,fQ]
  rw[h x (by simp) y,Vy (xs:=xs) (ys:=ys) fun z hz=>h z (by simp [hz])]
mutual
theorem WX:∀a b:Exp,Y9 a b=true↔a=b
 | .mk k n i xs,.mk k2 n2 i2 ys=>by
  simp only[Y9,cD,beq_iff_eq,Exp.mk.injEq]
  rw[Li xs ys]
theorem Li:∀a b:List Exp,Wg a b=true↔a=b
 |[],[]=>by simp [Wg]
 |[],_::_=>by simp [Wg]
 |_::_,[]=>by simp [Wg]
 |x::xs,y::ys=>by
  simp only[Wg,cD,fQ]
  rw[WX x y,Li xs ys]
end
mutual
theorem Mq:∀a b:Stmt,YR a b=true↔a=b
 | .mk k n v b e,.mk k2 n2 v2 b2 e2=>by
  simp only[YR,cD,beq_iff_eq,Stmt.mk.injEq]
  rw[WX v v2,IV b b2,IV e e2]
theorem IV:∀a b:List Stmt,UJ a b=true↔a=b
 |[],[]=>by simp [UJ]
 |[],_::_=>by simp [UJ]
 |_::_,[]=>by simp [UJ]
 |x::xs,y::ys=>by
  simp only[UJ,cD,fQ]
  rw[Mq x y,IV xs ys]
end
theorem Rl {xs ys:List Bs}:Zt (fun a b=>a==b) xs ys=true↔xs=ys:=Vy fun _ _ _=>beq_iff_eq
theorem Mp (a b:Test):Uu a b=true↔a=b:=by
 obtain⟨_,_,_,_⟩:=a;obtain⟨_,_,_,_⟩:=b
 simp only[Uu,cD,beq_iff_eq,Test.mk.injEq]
theorem NR (a b:Clear):WH a b=true↔a=b:=by
 obtain⟨_,_⟩:=a;obtain⟨_,_⟩:=b
 simp only[WH,cD,beq_iff_eq,Clear.mk.injEq]
theorem NN (a b:Var):Wd a b=true↔a=b:=by
 obtain⟨_,_,_,_⟩:=a;obtain⟨_,_,_,_⟩:=b
 simp only[Wd,cD,beq_iff_eq,Var.mk.injEq]
theorem Ph (a b:Chan):X5 a b=true↔a=b:=by
 obtain⟨_,_,_⟩:=a;obtain⟨_,_,_⟩:=b
 simp only[X5,cD,beq_iff_eq,Chan.mk.injEq]
theorem NS (a b:Assign):Uw a b=true↔a=b:=by
 obtain⟨_,v⟩:=a;obtain⟨_,v2⟩:=b
 simp only[Uw,cD,beq_iff_eq,Assign.mk.injEq,WX v v2]
theorem NQ (a b:Func):Uv a b=true↔a=b:=by
 obtain⟨_,_,_⟩:=a;obtain⟨_,_,_⟩:=b
 simp only[Uv,cD,beq_iff_eq,Func.mk.injEq,Rl,Vy (p:=YR) fun x _ y=>Mq x y]
theorem NP (a b:Loc):V3 a b=true↔a=b:=by
 obtain⟨n,k,v,r⟩:=a;obtain⟨n2,k2,v2,r2⟩:=b
 simp only[V3,cD,beq_iff_eq,Loc.mk.injEq,Vy (p:=Uu) fun x _ y=>Mp x y]
 constructor
 ·rintro⟨h1,h2,h3,h4⟩;exact⟨h1,h2,h4,h3⟩
 ·rintro⟨h1,h2,h3,h4⟩;exact⟨h1,h2,h4,h3⟩
theorem Pg (a b:Edge):ZZ a b=true↔a=b:=by
 obtain⟨_,_,_,c,_,_,_,_,_,_⟩:=a;obtain⟨_,_,_,c2,_,_,_,_,_,_⟩:=b
 simp only[ZZ,cD,beq_iff_eq,Edge.mk.injEq,Vy (p:=Uu) fun x _ y=>Mp x y,Vy (p:=Uw) fun x _ y=>NS x y,Vy (p:=WH) fun x _ y=>NR x y,WX c c2]
 constructor
 ·rintro⟨h1,h2,h3,h4,h5,h6,h7,h8,h9,h10⟩;exact⟨h1,h2,h7,h8,h3,h4,h9,h10,h5,h6⟩
 ·rintro⟨h1,h2,h7,h8,h3,h4,h9,h10,h5,h6⟩;exact⟨h1,h2,h3,h4,h5,h6,h7,h8,h9,h10⟩
theorem NO (a b:Proc):V2 a b=true↔a=b:=by
 obtain⟨_,_,_,_⟩:=a;obtain⟨_,_,_,_⟩:=b
 simp only[V2,cD,beq_iff_eq,Proc.mk.injEq,Vy (p:=V3) fun x _ y=>NP x y,Vy (p:=ZZ) fun x _ y=>Pg x y]
theorem OH (a b:Model):Yg a b=true↔a=b:=by
 obtain⟨_,_,_,_,_,_⟩:=a;obtain⟨_,_,_,_,_,_⟩:=b
 simp only[Yg,cD,beq_iff_eq,Model.mk.injEq,Rl,Vy (p:=Wd) fun x _ y=>NN x y,Vy (p:=X5) fun x _ y=>Ph x y,Vy (p:=Uv) fun x _ y=>NQ x y,Vy (p:=V2) fun x _ y=>NO x y]
theorem Lh (a:Model):Yg a a=true:=(OH a a).2 rfl
theorem vS (a b:Model):Yg a b=Yg b a:=by
 rw[fR,OH,OH];exact eq_comm
open Go.Ax.K
theorem No:LtM Wr:={
 name:=by decide
 clocks:=by decide
 clock:=by intro c hc;cases hc
 vars:=by decide
 var:=by intro c hc;cases hc
 chans:=by decide
 chan:=by intro c hc;cases hc
 funcs:=by decide
 func:=by intro c hc;cases hc
 size:=by decide
 procs:=by decide
 proc:=by intro c hc;cases hc}
theorem La:LtM O6:={
 name:=by decide
 clocks:=by decide
 clock:=by decide
 vars:=by decide
 var:=by intro c hc;cases hc
 chans:=by decide
 chan:=by intro c hc;cases hc
 funcs:=by decide
 func:=by intro c hc;cases hc
 size:=by decide
 procs:=by decide
 proc:=by
  intro p hp
  rcases dV.1 hp with rfl
  refine⟨by decide,by decide,by decide,?_,by decide,?_⟩
  ·intro l hl
   rcases dV.1 hl with rfl
   exact⟨by decide,by decide,by decide⟩
  ·intro x hx
   rcases dV.1 hx with rfl
   refine⟨by decide,by decide,by decide,by decide,⟨⟨by decide,by decide,trivial⟩,by decide⟩,by decide,by decide,?_,by decide,by decide⟩
   intro a ha;cases ha}
section
variable (G:Nat→Option (List AV))
theorem n8 (hG:Gl G){A:Q3}:Qu Tryz.prog G 8 [] A (bo true) A:=by
 refine Q4 l8 (fE rfl) ?_
 have h1:=fun A=>n9 G hG (N:=1000) (A:=A) (s:=ex1) (by decide)
 have h2:=fun A=>n9 G hG (N:=1000) (A:=A) (s:=ex2) (by decide)
 rw[vN]at h1
 rw[vM]at h2
 have h3:=fun A=>n14 G hG O6 (A:=A) La
 rw[B9,fC rfl,ex_t]at h3
 have h4:=fun A=>N0 G O6 (A:=A) La
 have h5:=fun A=>n18 G O6 O6 (A:=A) La
 have h6:=fun A=>n18 G O6 Wr (A:=A) La
 have h7:=fun A=>N0 G Wr (A:=A) No
 rw[B9]at h4
 rw[ex_s]at h5
 rw[ex_n]at h6
 rw[ex_g]at h7
 unfold C8
 simp only[XZ]at h1 h2
 refine Qd (fun env ds B=>ds=[]∧env 0=bo false∧B=A) ?_ ?_
 ·simp only[Q1,seval]
 rintro env _ B ⟨rfl,e0,rfl⟩
 simp only[Q1,seval]
 refine Q2 (h1 _) ?_
 have q1:O6.cells.length=6:=rfl
 have q2:O6.cells.all AV.one=true:=rfl
 have q3:O6.cells.take 6=O6.cells:=rfl
 have q4:Wr.cells.length=6:=rfl
 have q5:Wr.cells.all AV.one=true:=rfl
 simp only[q1,q2,q3,Q1,seval]
 intro p hp
 have hO:=(Z7.refl B).set hp (o:=some (.cells O6.cells)) (by simp)
 have hp:(B.upd p (some (.cells O6.cells))) p=some (.cells O6.cells):=Q0 ..
 generalize B.upd p (some (.cells O6.cells))=B1 at*
 refine Q2 (h3 _) ?_
 simp only[Q1,seval]
 refine Q2 (h2 _) ?_
 simp only[q4,q5,Q1,seval]
 intro q hq
 have nq:=Q6 hp hq
 have hO:=hO.set (hO.gone hq) (o:=some (.cells Wr.cells)) (by simp)
 have hp:=(Qa B1 q (some (.cells Wr.cells)) nq).trans hp
 generalize B1.upd q (some (.cells Wr.cells))=B2 at*
 simp only[hp,q1,q3,Q1,seval]
 refine⟨fun _=> ?_,fun h=>absurd rfl h⟩
 refine Q2 (h4 _) ?_
 simp only[hp,q1,q3,Q1,seval]
 refine Q2 (h5 _) ?_
 simp only[hp,q1,q3,Q1,seval]
 have h6':Qu Tryz.prog G 18 [.agg O6.cells,.agg [.str [],.raw (.slice none 0 0),.raw (.slice none 0 0),.raw (.slice none 0 0),.raw (.slice none 0 0),.raw (.slice none 0 0)]] B2 (bo false) B2:=Qt.wk (.cons (Wk.refl _) (.cons Kt .nil)) (h6 _)
 have h7':Qu Tryz.prog G 16 [.agg [.str [],.raw (.slice none 0 0),.raw (.slice none 0 0),.raw (.slice none 0 0),.raw (.slice none 0 0),.raw (.slice none 0 0)]] B2 (i64 2) B2:=Qt.wk (.cons Kt .nil) (h7 _)
 refine Q2 h6' ?_
 simp only[Q1,seval]
 refine Q2 h7' ?_
 simp only[Q1,seval]
 exact Qb rfl hO
end
end Go.Proofs.YtcbjbgaefighcaaGreatDoor
namespace Go.Proofs.YtcbjbgaefighcaaGreatDoor
open Go Go.Ax Go.Proofs
def κW (W:World):Kn:=⟨fun _=>none,fun b o=>W.cell? ⟨b,o,none⟩⟩
def ZT {α:Type}(wt:α→Nat):List α→Nat
 |[]=>0
 |x::xs=>wt x+ZT wt xs
theorem F8 {α:Type}{wt:α→Nat}:∀{a b:List α},ZT wt (a++b)=ZT wt a+ZT wt b
 |[],_=>by simp [ZT]
 |x::a,b=>by simp only[cF,ZT,F8 (a:=a)];omega
section
variable {H:Type}(en:TypeId×Value→H)(W:World)
def Rd (t:TypeId){α:Type}(enc:α→List AV)(wt:α→Nat)(n:Nat):Prop:=
 ∀k,k≤n→∀(cs:List Value) (x:DataW H×List MemPlace),DataW.trod en Tryz.prog W 0 (fun _=>true) true k t cs=some x→∃a:α,Qi (κW W) (enc a) cs∧wt a≤Rows.uptoBulk x.1
variable {en W}
theorem Rd.le {t:TypeId}{α:Type}{enc:α→List AV}{wt:α→Nat}{n m:Nat}(h:Rd en W t enc wt n)(hm:m≤n):Rd en W t enc wt m:=fun k hk=>h k (by omega)
theorem Rd.map {t:TypeId}{α β:Type}{enc:α→List AV}{wt:α→Nat}{enc':β→List AV}{wt':β→Nat}{n:Nat}(f:α→β)(h:Rd en W t enc wt n)(he:∀a,enc' (f a)=enc a)(hw:∀a,wt' (f a)≤wt a):Rd en W t enc' wt' n:=fun k hk cs x hx=>by
 obtain⟨a,h1,h2⟩:=h k hk cs x hx
 exact⟨f a,by rw[he];exact h1,fI (hw a) h2⟩
theorem VX {t:TypeId}{α:Type}{enc:α→List AV}{wt:α→Nat}:Rd en W t enc wt 0:=fun k hk cs x hx=>by
 obtain rfl:k=0:=by omega
 simp [DataW.trod]at hx
theorem Vh {t:TypeId}(ht:Tryz.prog.underlying t=some .string)(n:Nat):Rd en W t Zl (fun s=>s.length+1) n:=fun k hk cs x hx=>by
 obtain⟨s,rfl,rfl,_⟩:=DataW.trod_string ht hx
 refine⟨s.data.toList,?_,by simp [Rows.uptoBulk]⟩
 exact Yk (by simp [Qc])
theorem UK {t:TypeId}(ht:Tryz.prog.underlying t=some (.int .i64))(n:Nat):Rd en W t (fun i:Int=>[i64 i]) (fun _=>1) n:=fun k hk cs x hx=>by
 obtain⟨i,rfl,rfl,_⟩:=DataW.trod_int ht hx
 exact⟨i,Yk (by simp [Qc]),by simp [Rows.uptoBulk]⟩
theorem In {t:TypeId}(ht:Tryz.prog.underlying t=some .bool)(n:Nat):Rd en W t (fun b:Bool=>[bo b]) (fun _=>1) n:=fun k hk cs x hx=>by
 obtain⟨i,rfl,rfl⟩:=DataW.trod_bool ht hx
 exact⟨i,Yk (by simp [Qc]),by simp [Rows.uptoBulk]⟩
theorem PV {a:Addr}{W:World}{v:Value}(h:W.cell? a=some v):a=⟨a.block,a.off,none⟩:=by
 obtain⟨b,o,s⟩:=a
 cases s with
 |none=>rfl
 |some x=>simp only[World.cell?]at h;split at h <;> simp at h
theorem Sv {us:List Value}{es:List AV}{b o:Nat}(h:Qi (κW W) es us)(hc:∀j,j<us.length→W.cell? ⟨b,o+j,none⟩=us[j]?):Zx (κW W) b es o:=by
 induction es generalizing us o with
 |nil=>simp [Zx]
 |cons e es ih=>
  simp only[Qi]at h
  obtain⟨x,xs,rfl,h1,h2⟩:=h
  simp only[Zx]
  refine⟨⟨x,by simpa[κW]using hc 0 (by simp),h1⟩,ih h2 fun j hj=> ?_⟩
  have:=hc (j+1) (by simpa using hj)
  rw[Nat.add_assoc,Nat.add_comm 1 j]
  simpa using this
theorem MO (b o n:Nat):(⟨b,o,none⟩:Addr).add n=⟨b,o+n,none⟩:=by
 unfold Addr.add
 split
 ·rename_i h;subst h;rfl
 ·rfl
theorem YB {t e:TypeId}{α:Type}{enc:α→List AV}{wt:α→Nat}{n sz:Nat}(ht:Tryz.prog.underlying t=some (.slice e))(hs:Tryz.prog.cellsOf e=sz)(hpos:0<sz)(hl:∀a,(enc a).length=sz)(h:Rd en W e enc wt n):
 Rd en W t (fun l=>[Qy sz enc l]) (fun l=>1+ZT wt l) (n+1):=fun k hk cs x hx=>by
 rcases DataW.trod_slice ht hx with⟨rfl,rfl⟩|⟨a,len,cap,elems,rest,m,rfl,rfl,rfl,_,hlc,_,hlen,hel,hsp,_⟩
 ·exact⟨[],Yk (by simp [Qy,Qc]),by simp [ZT,Rows.uptoBulk]⟩
 rw[hs]at hel hsp
 obtain⟨hrl,hre⟩:=hsp rfl
 by_cases hcap:cap=0
 ·obtain rfl:len=0:=by omega
  subst hcap
  exact⟨[],Yk (by simp only[Qy,Qc];exact .inl ⟨trivial,rfl,rfl,some a,rfl⟩),by simp only[ZT,Rows.uptoBulk];omega⟩
 have hsp:∃us,W.cells? 0 (a.add 0) sz=some us:=by
  by_cases h0:len=0
  ·subst h0
   have h5:=hre 0 (by omega)
   rw[dY (by omega)]at h5
   obtain⟨us,h6,_⟩:=fN.1 h5
   exact⟨us,by simpa using h6⟩
  ·have h5:=hel 0 (by omega)
   rw[dY (by omega)]at h5
   obtain⟨us,h6,_⟩:=fN.1 h5
   exact⟨us,by simpa using h6⟩
 obtain⟨us,hus⟩:=hsp
 obtain⟨_,k1,k2⟩:=World.cells?_some hus
 have ha:a=⟨a.block,a.off,none⟩:=by
  have e0:=k2 0 (by omega)
  rw[dY (by omega)]at e0
  exact PV (by simpa[Addr.add]using e0)
 rw[ha]at hel⊢
 generalize a.block=b at*
 generalize a.off=o at*
 clear hus k1 k2 us ha hre hrl
 have key:∀(xs:List (DataW H×List MemPlace)) (i:Nat),i+xs.length=len→(∀j,j<xs.length→elems[i+j]? =xs[j]?)→
  ∃l:List α,l.length=xs.length∧Zx (κW W) b (l.flatMap enc) (o+i*sz)∧ZT wt l≤Rows.uptoBulkAll (xs.map (·.1)):=by
  intro xs
  induction xs with
  |nil=>intro i _ _;exact⟨[],rfl,by simp [Zx],by simp [ZT]⟩
  |cons x xs ih=>
   intro i hi hx
   obtain⟨l,h1,h3,h4⟩:=ih (i+1) (by simp at hi;omega) fun j hj=>by
    have:=hx (j+1) (by simpa using hj)
    rw[Nat.add_assoc,Nat.add_comm 1 j];simpa using this
   have h5:=hel i (by simp at hi;omega)
   rw[show elems[i]? =some x by simpa using hx 0 (by simp)]at h5
   obtain⟨us,h6,h7⟩:=fN.1 h5
   obtain⟨y,h8,h9⟩:=h m (by omega) us x h7
   obtain⟨_,k1,k2⟩:=World.cells?_some h6
   refine⟨y::l,by simp [h1],?_,by simp only[ZT,cJ,Rows.uptoBulkAll];omega⟩
   rw[dD]
   refine Zx.append (Sv h8 fun j hj=> ?_) ?_
   ·have:=k2 j (by omega)
    rw[MO,MO]at this
    exact this
   ·rw[hl y,Nat.add_assoc,show i*sz+sz=(i+1)*sz by rw[Nat.succ_mul]]
    exact h3
 obtain⟨l,h1,h3,h4⟩:=key elems 0 (by simpa using hlen) fun j _=>by simp
 refine⟨l,Yk ?_,by simp only[Rows.uptoBulk];omega⟩
 simp only[Qy,Qc]
 refine .inr ⟨b,o,cap,by rw[h1,hlen],by omega,?_,by simpa using h3,fun t ht=>by cases ht⟩
 clear h3 h4 key h1
 induction l with
 |nil=>simp
 |cons y l ih=>rw[dD,cC,hl y,ih,cE,Nat.succ_mul];omega
inductive RdS {H:Type} (en:TypeId×Value→H) (W:World) (n:Nat):List (TypeId×Nat×Nat)→Nat→(α:Type)→(α→List AV)→(α→Nat)→Prop where
 |nil {off:Nat}:RdS en W n [] off Unit (fun _=>[]) (fun _=>0)
 |cons {t:TypeId} {off sz:Nat} {fs:List (TypeId×Nat×Nat)} {α β:Type} {enc:α→List AV} {wt:α→Nat} {enc':β→List AV} {wt':β→Nat} (h:Rd en W t enc wt n) (hs:RdS en W n fs (off+sz) β enc' wt'):
  RdS en W n ((t,off,sz)::fs) off (α×β) (fun p=>enc p.1++enc' p.2) (fun p=>wt p.1+wt' p.2)
theorem TV {κ:Kn}:∀{a b:List AV} {us vs:List Value},Qi κ a us→Qi κ b vs→Qi κ (a++b) (us++vs)
 |[],_,_,_,h,k=>by simp only[Qi]at h;subst h;simpa using k
 |c::a,b,_,vs,h,k=>by
  simp only[Qi]at h
  obtain⟨x,xs,rfl,h1,h2⟩:=h
  simp only[cF,Qi]
  exact⟨x,xs++vs,rfl,h1,TV h2 k⟩
theorem NX {n m:Nat}(hm:m≤n){cs:List Value}:∀{fs:List (TypeId×Nat×Nat)} {off:Nat} {α:Type} {enc:α→List AV} {wt:α→Nat},RdS en W n fs off α enc wt→∀(xs:List (DataW H×List MemPlace)),xs.length=fs.length→
 cs.length=off+(fs.map (·.2.2)).sum→(∀(i:Nat) (f:TypeId×Nat×Nat),fs[i]? =some f→DataW.trod en Tryz.prog W 0 (fun _=>true) true m f.1 ((cs.drop f.2.1).take f.2.2)=xs[i]?)→
 ∃a:α,Qi (κW W) (enc a) (cs.drop off)∧wt a≤Rows.uptoBulkAll (xs.map (·.1)):=by
 intro fs off α enc wt h
 induction h with
 |nil=>
  intro xs _ hl _
  exact⟨(),by rw[List.drop_of_length_le (by simp at hl;omega)];simp [Qi],lO _⟩
 |cons h hs ih=>
  rename_i t off sz fs α β enc wt enc' wt'
  intro xs hxl hl hf
  match xs,hxl with
  |x::xs,hxl=>
  obtain⟨a,h1,h2⟩:=h m hm _ x (by simpa using hf 0 _ rfl)
  obtain⟨b,h3,h4⟩:=ih xs (by simpa using hxl) (by simp at hl;omega) fun i f hi=>by simpa using hf (i+1) f (by simpa using hi)
  refine⟨(a,b),?_,by simp only[cJ,Rows.uptoBulkAll];omega⟩
  have:=TV h1 h3
  rwa [show(cs.drop off).take sz++cs.drop (off+sz)=cs.drop off by rw[←lC,fY]]at this
theorem YC {t:TypeId}{fs:Array Field}{n:Nat}{α:Type}{enc:α→List AV}{wt:α→Nat}{l:List (TypeId×Nat×Nat)}(ht:Tryz.prog.underlying t=some (.struct fs))(hl:fs.toList.map (fun f=>(f.type,f.offset,Tryz.prog.cellsOf f.type))=l)(hs:Tryz.prog.cellsOf t=(l.map (·.2.2)).sum)
 (h:RdS en W n l 0 α enc wt):Rd en W t enc (fun a=>1+wt a) (n+1):=fun k hk cs x hx=>by
 obtain⟨xs,m,rfl,rfl,hcl,hxl,hf⟩:=DataW.trod_struct ht hx
 obtain⟨a,h1,h2⟩:=NX (m:=m) (by omega) (cs:=cs) h xs (by rw[hxl,←hl];simp) (by rw[hcl,hs,lN]) fun i f hi=>by
  rw[←hl,List.getElem?_map,cG]at hi
  obtain⟨g,hg,rfl⟩:=hi
  have hg2:fs[i]? =some g:=by rw[←Array.getElem?_toList];exact hg
  have h3:=hf i g hg2
  simp only
  exact h3
 exact⟨a,by simpa using h1,by simp only[Rows.uptoBulk];omega⟩
end
def wS (s:Bs):Nat:=s.length+1
mutual
def wE:Exp→Nat
 | .mk _ n _ xs=>1+n.length+Hi xs
def Hi:List Exp→Nat
 |[]=>0
 |x::xs=>wE x+Hi xs
end
theorem Ts:∀xs:List Exp,Hi xs=ZT wE xs
 |[]=>rfl
 |x::xs=>by simp only[Hi,ZT,Ts xs]
mutual
def O3:Stmt→Nat
 | .mk _ n v b e=>1+n.length+wE v+X1 b+X1 e
def X1:List Stmt→Nat
 |[]=>0
 |x::xs=>O3 x+X1 xs
end
theorem Ij:∀xs:List Stmt,X1 xs=ZT O3 xs
 |[]=>rfl
 |x::xs=>by simp only[X1,ZT,Ij xs]
def wT (t:Test):Nat:=1+t.clock.length
def M0 (t:Clear):Nat:=1+t.clock.length
def wV (t:Var):Nat:=1+t.name.length
def M1 (t:Chan):Nat:=1+t.name.length
def wA (a:Assign):Nat:=1+a.name.length+wE a.val
def wL (l:Loc):Nat:=1+l.name.length+ZT wT l.inv
def Hj (x:Edge):Nat:=1+x.src.length+x.dst.length+ZT wT x.tests+wE x.cond+x.chan.length+ZT wA x.sets+ZT M0 x.clears
def wP (p:Proc):Nat:=1+p.name.length+p.init.length+ZT wL p.locs+ZT Hj p.edges
def wF (f:Func):Nat:=1+f.name.length+ZT wS f.params+ZT O3 f.body
def wM (m:Model):Nat:=1+m.name.length+ZT wS m.clocks+ZT wV m.vars+ZT M1 m.chans+ZT wF m.funcs+ZT wP m.procs
section
variable {H:Type}{en:TypeId×Value→H}{W:World}
theorem Sw (n:Nat):Rd en W 23 (fun l=>[Qy 1 Zl l]) (fun l=>1+ZT wS l) n:=(YB (sz:=1) Tryz.underlying23 (by kernel_rfl) (by decide) (fun _=>rfl) (Vh Tryz.underlying9 n)).le (fV n)
theorem rd_T:∀n,Rd en W 179 Test.cells wT n
 |0=>VX
 |n+1=>(YC (l:=[(9,0,1),(4,1,1),(4,2,1),(2,3,1)]) Tryz.underlying179 (by kernel_rfl) (by kernel_rfl) (.cons (Vh Tryz.underlying9 n) (.cons (In Tryz.underlying4 n) (.cons (In Tryz.underlying4 n) (.cons (UK Tryz.underlying2 n) .nil))))).map (fun p=>⟨p.1,p.2.1,p.2.2.1,p.2.2.2.1⟩) (fun p=>rfl) (fun p=>by simp only[wT,wS];omega)
theorem yU:∀n,Rd en W 163 Clear.cells M0 n
 |0=>VX
 |n+1=>(YC (l:=[(9,0,1),(2,1,1)]) Tryz.underlying163 (by kernel_rfl) (by kernel_rfl) (.cons (Vh Tryz.underlying9 n) (.cons (UK Tryz.underlying2 n) .nil))).map (fun p=>⟨p.1,p.2.1⟩) (fun p=>rfl) (fun p=>by simp only[M0,wS];omega)
theorem rd_V:∀n,Rd en W 88 Var.cells wV n
 |0=>VX
 |n+1=>(YC (l:=[(9,0,1),(2,1,1),(2,2,1),(2,3,1)]) Tryz.underlying88 (by kernel_rfl) (by kernel_rfl) (.cons (Vh Tryz.underlying9 n) (.cons (UK Tryz.underlying2 n) (.cons (UK Tryz.underlying2 n) (.cons (UK Tryz.underlying2 n) .nil))))).map (fun p=>⟨p.1,p.2.1,p.2.2.1,p.2.2.2.1⟩) (fun p=>rfl) (fun p=>by simp only[wV,wS];omega)
theorem yV:∀n,Rd en W 90 Chan.cells M1 n
 |0=>VX
 |n+1=>(YC (l:=[(9,0,1),(4,1,1),(4,2,1)]) Tryz.underlying90 (by kernel_rfl) (by kernel_rfl) (.cons (Vh Tryz.underlying9 n) (.cons (In Tryz.underlying4 n) (.cons (In Tryz.underlying4 n) .nil)))).map (fun p=>⟨p.1,p.2.1,p.2.2.1⟩) (fun p=>rfl) (fun p=>by simp only[M1,wS];omega)
theorem Ez (n:Nat):Rd en W 49 (fun l=>[Qy 4 Test.cells l]) (fun l=>1+ZT wT l) n:=(YB (sz:=4) Tryz.underlying49 (by kernel_rfl) (by decide) (fun _=>rfl) (rd_T n)).le (fV n)
theorem zN (n:Nat):Rd en W 51 (fun l=>[Qy 2 Clear.cells l]) (fun l=>1+ZT M0 l) n:=(YB (sz:=2) Tryz.underlying51 (by kernel_rfl) (by decide) (fun _=>rfl) (yU n)).le (fV n)
theorem yP (n:Nat):Rd en W 24 (fun l=>[Qy 4 Var.cells l]) (fun l=>1+ZT wV l) n:=(YB (sz:=4) Tryz.underlying24 (by kernel_rfl) (by decide) (fun _=>rfl) (rd_V n)).le (fV n)
theorem zO (n:Nat):Rd en W 25 (fun l=>[Qy 3 Chan.cells l]) (fun l=>1+ZT M1 l) n:=(YB (sz:=3) Tryz.underlying25 (by kernel_rfl) (by decide) (fun _=>rfl) (yV n)).le (fV n)
theorem Tm:∀n,Rd en W 42 Exp.cells wE n
 |0=>VX
 |n+1=>(YC (l:=[(3,0,1),(9,1,1),(2,2,1),(40,3,1)]) Tryz.underlying42 (by kernel_rfl) (by kernel_rfl) (.cons (UK Tryz.underlying3 n) (.cons (Vh Tryz.underlying9 n) (.cons (UK Tryz.underlying2 n) (.cons ((YB (sz:=4) Tryz.underlying40 (by kernel_rfl) (by decide) Exp.cells_len (Tm n)).le (fV n)) .nil))))).map
  (fun p=>.mk p.1 p.2.1 p.2.2.1 p.2.2.2.1) (fun p=>by simp only[Exp.cells,Exp.cellsL_eq,Qy,Zl];rfl) (fun p=>by simp only[wE,Ts];omega)
theorem P5:∀n,Rd en W 175 Stmt.cells O3 n
 |0=>VX
 |n+1=>(YC (l:=[(3,0,1),(9,1,1),(42,2,4),(78,6,1),(78,7,1)]) Tryz.underlying175 (by kernel_rfl) (by kernel_rfl) (.cons (UK Tryz.underlying3 n) (.cons (Vh Tryz.underlying9 n) (.cons (Tm n) (.cons ((YB (sz:=8) Tryz.underlying78 (by kernel_rfl) (by decide) Stmt.cells_len (P5 n)).le (fV n)) (.cons ((YB (sz:=8) Tryz.underlying78 (by kernel_rfl) (by decide) Stmt.cells_len (P5 n)).le (fV n)) .nil)))))).map
  (fun p=>.mk p.1 p.2.1 p.2.2.1 p.2.2.2.1 p.2.2.2.2.1) (fun p=>by simp only[Stmt.cells,Stmt.cellsL_eq,Qy,Zl,cU];rfl) (fun p=>by simp only[O3,Ij];omega)
theorem zL (n:Nat):Rd en W 78 (fun l=>[Qy 8 Stmt.cells l]) (fun l=>1+ZT O3 l) n:=(YB (sz:=8) Tryz.underlying78 (by kernel_rfl) (by decide) Stmt.cells_len (P5 n)).le (fV n)
theorem rd_A:∀n,Rd en W 56 Assign.cells wA n
 |0=>VX
 |n+1=>(YC (l:=[(9,0,1),(42,1,4)]) Tryz.underlying56 (by kernel_rfl) (by kernel_rfl) (.cons (Vh Tryz.underlying9 n) (.cons (Tm n) .nil))).map (fun p=>⟨p.1,p.2.1⟩) (fun p=>by simp only[Assign.cells,Zl,cN];rfl) (fun p=>by simp only[wA,wS];omega)
theorem yW (n:Nat):Rd en W 50 (fun l=>[Qy 5 Assign.cells l]) (fun l=>1+ZT wA l) n:=(YB (sz:=5) Tryz.underlying50 (by kernel_rfl) (by decide) Assign.cells_len (rd_A n)).le (fV n)
theorem rd_L:∀n,Rd en W 97 Loc.cells wL n
 |0=>VX
 |n+1=>(YC (l:=[(9,0,1),(3,1,1),(49,2,1),(2,3,1)]) Tryz.underlying97 (by kernel_rfl) (by kernel_rfl) (.cons (Vh Tryz.underlying9 n) (.cons (UK Tryz.underlying3 n) (.cons (Ez n) (.cons (UK Tryz.underlying2 n) .nil))))).map (fun p=>⟨p.1,p.2.1,p.2.2.1,p.2.2.2.1⟩) (fun p=>rfl) (fun p=>by simp only[wL,wS];omega)
theorem yR (n:Nat):Rd en W 45 (fun l=>[Qy 4 Loc.cells l]) (fun l=>1+ZT wL l) n:=(YB (sz:=4) Tryz.underlying45 (by kernel_rfl) (by decide) (fun _=>rfl) (rd_L n)).le (fV n)
theorem yT:∀n,Rd en W 53 Edge.cells Hj n
 |0=>VX
 |n+1=>(YC (l:=[(9,0,1),(9,1,1),(49,2,1),(42,3,4),(9,7,1),(4,8,1),(50,9,1),(51,10,1),(2,11,1),(3,12,1)]) Tryz.underlying53 (by kernel_rfl) (by kernel_rfl) (.cons (Vh Tryz.underlying9 n) (.cons (Vh Tryz.underlying9 n) (.cons (Ez n) (.cons (Tm n) (.cons (Vh Tryz.underlying9 n) (.cons (In Tryz.underlying4 n) (.cons (yW n) (.cons (zN n) (.cons (UK Tryz.underlying2 n) (.cons (UK Tryz.underlying3 n) .nil))))))))))).map (fun p=>⟨p.1,p.2.1,p.2.2.1,p.2.2.2.1,p.2.2.2.2.1,p.2.2.2.2.2.1,p.2.2.2.2.2.2.1,p.2.2.2.2.2.2.2.1,p.2.2.2.2.2.2.2.2.1,p.2.2.2.2.2.2.2.2.2.1⟩) (fun p=>by simp only[Edge.cells,Zl,cU];rfl) (fun p=>by simp only[Hj,wS];omega)
theorem zM (n:Nat):Rd en W 46 (fun l=>[Qy 13 Edge.cells l]) (fun l=>1+ZT Hj l) n:=(YB (sz:=13) Tryz.underlying46 (by kernel_rfl) (by decide) Edge.cells_len (yT n)).le (fV n)
theorem rd_P:∀n,Rd en W 48 Proc.cells wP n
 |0=>VX
 |n+1=>(YC (l:=[(9,0,1),(9,1,1),(45,2,1),(46,3,1)]) Tryz.underlying48 (by kernel_rfl) (by kernel_rfl) (.cons (Vh Tryz.underlying9 n) (.cons (Vh Tryz.underlying9 n) (.cons (yR n) (.cons (zM n) .nil))))).map (fun p=>⟨p.1,p.2.1,p.2.2.1,p.2.2.2.1⟩) (fun p=>rfl) (fun p=>by simp only[wP,wS];omega)
theorem yQ (n:Nat):Rd en W 27 (fun l=>[Qy 4 Proc.cells l]) (fun l=>1+ZT wP l) n:=(YB (sz:=4) Tryz.underlying27 (by kernel_rfl) (by decide) (fun _=>rfl) (rd_P n)).le (fV n)
theorem rd_F:∀n,Rd en W 80 Func.cells wF n
 |0=>VX
 |n+1=>(YC (l:=[(9,0,1),(23,1,1),(78,2,1)]) Tryz.underlying80 (by kernel_rfl) (by kernel_rfl) (.cons (Vh Tryz.underlying9 n) (.cons (Sw n) (.cons (zL n) .nil)))).map (fun p=>⟨p.1,p.2.1,p.2.2.1⟩) (fun p=>rfl) (fun p=>by simp only[wF,wS];omega)
theorem yS (n:Nat):Rd en W 26 (fun l=>[Qy 3 Func.cells l]) (fun l=>1+ZT wF l) n:=(YB (sz:=3) Tryz.underlying26 (by kernel_rfl) (by decide) (fun _=>rfl) (rd_F n)).le (fV n)
theorem rd_M:∀n,Rd en W 29 Model.cells wM n
 |0=>VX
 |n+1=>(YC (l:=[(9,0,1),(23,1,1),(24,2,1),(25,3,1),(26,4,1),(27,5,1)]) Tryz.underlying29 (by kernel_rfl) (by kernel_rfl) (.cons (Vh Tryz.underlying9 n) (.cons (Sw n) (.cons (yP n) (.cons (zO n) (.cons (yS n) (.cons (yQ n) .nil))))))).map (fun p=>⟨p.1,p.2.1,p.2.2.1,p.2.2.2.1,p.2.2.2.2.1,p.2.2.2.2.2.1⟩) (fun p=>rfl) (fun p=>by simp only[wM,wS];omega)
end
theorem YO {α:Type}{wt:α→Nat}:∀{xs:List α} {x:α},x∈xs→wt x≤ZT wt xs
 |y::ys,x,h=>by
  simp only[ZT]
  rcases dT.1 h with rfl|h
  ·omega
  ·have:=YO (wt:=wt) h;omega
theorem Y7 {α:Type}{wt:α→Nat}(h:∀x,1≤wt x):∀{xs:List α},xs.length≤ZT wt xs
 |[]=>lO _
 |x::xs=>by have:=Y7 h (xs:=xs);have:=h x;simp only[ZT,cE];omega
theorem qT:∀x,1≤wE x
 | .mk _ _ _ _=>by simp only[wE];omega
theorem Sf:∀x,1≤O3 x
 | .mk _ _ _ _ _=>by simp only[O3];omega
theorem EN (xs:List Exp):xs.length≤Hi xs:=by rw[Ts];exact Y7 qT
theorem Tz (xs:List Stmt):xs.length≤X1 xs:=by rw[Ij];exact Y7 Sf
mutual
theorem LG:∀x:Exp,wE x≤2097152→VS x∧Te x∧(Z8 x).nodes≤wE x
 | .mk _ n _ xs,h=>by
  simp only[wE]at h
  have hl:=EN xs
  obtain⟨h1,h2,h3⟩:=EE xs ⟨1,1,decide (xs.length>4)⟩ (by omega)
  exact⟨by simp only[VS];exact⟨by omega,by omega,h1⟩,by simp only[Te];exact⟨by omega,h2⟩,by simp only[Z8,wE];simp only at h3;omega⟩
theorem EE:∀(xs:List Exp) (m:Siz),Hi xs≤2097152→Hy xs∧LE xs∧(Zh m xs).nodes≤m.nodes+Hi xs
 |[],m,_=>⟨trivial,trivial,by simp [Zh,Hi]⟩
 |x::xs,m,h=>by
  simp only[Hi]at h
  obtain⟨a1,a2,a3⟩:=LG x (by omega)
  obtain⟨b1,b2,b3⟩:=EE xs (m.inn (Z8 x)) (by omega)
  refine⟨by simp only[Hy];exact⟨a1,b1⟩,by simp only[LE];exact⟨a2,b2⟩,?_⟩
  simp only[Zh,Hi]
  have:(m.inn (Z8 x)).nodes=m.nodes+(Z8 x).nodes:=rfl
  omega
end
mutual
theorem Cz:∀x:Stmt,O3 x≤2097152→KO x∧smS x∧(Jj x).nodes≤O3 x
 | .mk _ n v b e,h=>by
  simp only[O3]at h
  have hl1:=Tz b
  have hl2:=Tz e
  obtain⟨a1,a2,a3⟩:=LG v (by omega)
  obtain⟨b1,b2,b3⟩:=T5 b (Siz.inn ⟨1,1,false⟩ (Z8 v)) (by omega)
  obtain⟨c1,c2,c3⟩:=T5 e (Z9 (Siz.inn ⟨1,1,false⟩ (Z8 v)) b) (by omega)
  refine⟨by simp only[KO];exact⟨by omega,a1,by omega,by omega,b1,c1⟩,by simp only[smS];exact⟨a2,by omega,by omega,b2,c2⟩,?_⟩
  simp only[Jj,O3]
  have:(Siz.inn ⟨1,1,false⟩ (Z8 v)).nodes=1+(Z8 v).nodes:=rfl
  omega
theorem T5:∀(xs:List Stmt) (m:Siz),X1 xs≤2097152→K4 xs∧Og xs∧(Z9 m xs).nodes≤m.nodes+X1 xs
 |[],m,_=>⟨trivial,trivial,by simp [Z9,X1]⟩
 |x::xs,m,h=>by
  simp only[X1]at h
  obtain⟨a1,a2,a3⟩:=Cz x (by omega)
  obtain⟨b1,b2,b3⟩:=T5 xs (m.inn (Jj x)) (by omega)
  refine⟨by simp only[K4];exact⟨a1,b1⟩,by simp only[Og];exact⟨a2,b2⟩,?_⟩
  simp only[Z9,X1]
  have:(m.inn (Jj x)).nodes=m.nodes+(Jj x).nodes:=rfl
  omega
end
theorem Sk:∀(xs:List Stmt) (m:Siz),X1 xs≤2097152→(Zy m xs).nodes≤m.nodes+X1 xs
 |[],m,_=>by simp [Zy,X1]
 |x::xs,m,h=>by
  simp only[X1]at h
  have a:=(Cz x (by omega)).2.2
  have b:=Sk xs (m.bes (Jj x)) (by omega)
  have:(m.bes (Jj x)).nodes=m.nodes+(Jj x).nodes:=rfl
  simp only[X1]
  show(Zy (m.bes (Jj x)) xs).nodes≤_
  omega
theorem Sl:∀(xs:List Func) (m:Siz),ZT wF xs≤2097152→(J8 m xs).nodes≤m.nodes+ZT wF xs
 |[],m,_=>by simp [J8,ZT]
 |x::xs,m,h=>by
  simp only[ZT]at h
  have hw:X1 x.body≤wF x:=by rw[Ij];simp only[wF];omega
  have a:=Sk x.body m (by omega)
  have b:=Sl xs (Zy m x.body) (by omega)
  simp only[ZT]
  show(J8 (Zy m x.body) xs).nodes≤_
  omega
theorem CZ (f:Func)(h:wF f≤2097152):HX f∧smF f:=by
 simp only[wF]at h
 have hl1:=Y7 (wt:=wS) (fun _=>by simp only[wS];omega) (xs:=f.params)
 have hl2:=Y7 Sf (xs:=f.body)
 obtain⟨b1,b2,_⟩:=T5 f.body ⟨0,0,false⟩ (by rw[Ij];omega)
 exact⟨⟨by omega,by omega,fun p hp=>by have:=YO (wt:=wS) hp;simp only[wS]at this;omega,by omega,b1⟩,by omega,by omega,b2⟩
theorem CI (l:Loc)(h:wL l≤2097152):ltL l∧l.inv.length≤2097152:=by
 simp only[wL]at h
 have hl1:=Y7 (wt:=wT) (fun _=>by simp only[wT];omega) (xs:=l.inv)
 exact⟨⟨by omega,by omega,fun p hp=>by have:=YO (wt:=wT) hp;simp only[wT]at this;omega⟩,by omega⟩
theorem Bb (x:Edge)(h:Hj x≤2097152):Iz x∧CA x:=by
 simp only[Hj]at h
 have hl1:=Y7 (wt:=wT) (fun _=>by simp only[wT];omega) (xs:=x.tests)
 have hl2:=Y7 (wt:=wA) (fun _=>by simp only[wA];omega) (xs:=x.sets)
 have hl3:=Y7 (wt:=M0) (fun _=>by simp only[M0];omega) (xs:=x.clears)
 obtain⟨c1,c2,c3⟩:=LG x.cond (by omega)
 have hs:∀a∈x.sets,a.name.length≤2097152∧wE a.val≤2097152:=fun a ha=>by have:=YO (wt:=wA) ha;simp only[wA]at this;omega
 exact⟨⟨by omega,by omega,by omega,fun p hp=>by have:=YO (wt:=wT) hp;simp only[wT]at this;omega,⟨c1,by omega⟩,by omega,by omega,
  fun a ha=>by have:=hs a ha;have:=LG a.val this.2;exact⟨by omega,this.1,by omega⟩,by omega,fun p hp=>by have:=YO (wt:=M0) hp;simp only[M0]at this;omega⟩,
  by omega,c2,by omega,fun a ha=>(LG a.val (hs a ha).2).2.1,by omega⟩
theorem CC (p:Proc)(h:wP p≤2097152):PY p∧smP p:=by
 simp only[wP]at h
 have hl1:=Y7 (wt:=wL) (fun _=>by simp only[wL];omega) (xs:=p.locs)
 have hl2:=Y7 (wt:=Hj) (fun _=>by simp only[Hj];omega) (xs:=p.edges)
 have hL:∀l∈p.locs,wL l≤2097152:=fun l hl=>by have:=YO (wt:=wL) hl;omega
 have hE:∀l∈p.edges,Hj l≤2097152:=fun l hl=>by have:=YO (wt:=Hj) hl;omega
 exact⟨⟨by omega,by omega,by omega,fun l hl=>(CI l (hL l hl)).1,by omega,fun l hl=>(Bb l (hE l hl)).1⟩,
  by omega,fun l hl=>(CI l (hL l hl)).2,by omega,fun l hl=>(Bb l (hE l hl)).2⟩
theorem modB (m:Model)(h:wM m≤2097152):LtM m∧SmM m:=by
 simp only[wM]at h
 have hl1:=Y7 (wt:=wS) (fun _=>by simp only[wS];omega) (xs:=m.clocks)
 have hl2:=Y7 (wt:=wV) (fun _=>by simp only[wV];omega) (xs:=m.vars)
 have hl3:=Y7 (wt:=M1) (fun _=>by simp only[M1];omega) (xs:=m.chans)
 have hl4:=Y7 (wt:=wF) (fun _=>by simp only[wF];omega) (xs:=m.funcs)
 have hl5:=Y7 (wt:=wP) (fun _=>by simp only[wP];omega) (xs:=m.procs)
 have hF:∀l∈m.funcs,wF l≤2097152:=fun l hl=>by have:=YO (wt:=wF) hl;omega
 have hP:∀l∈m.procs,wP l≤2097152:=fun l hl=>by have:=YO (wt:=wP) hl;omega
 have hn:=Sl m.funcs ⟨0,0,false⟩ (by omega)
 exact⟨⟨by omega,by omega,fun p hp=>by have:=YO (wt:=wS) hp;simp only[wS]at this;omega,by omega,fun p hp=>by have:=YO (wt:=wV) hp;simp only[wV]at this;omega,by omega,
  fun p hp=>by have:=YO (wt:=M1) hp;simp only[M1]at this;omega,by omega,fun f hf=>(CZ f (hF f hf)).1,by simp only at hn;omega,by omega,fun p hp=>(CC p (hP p hp)).1⟩,
  ⟨by omega,by omega,by omega,by omega,fun f hf=>(CZ f (hF f hf)).2,by omega,fun p hp=>(CC p (hP p hp)).2⟩⟩
end Go.Proofs.YtcbjbgaefighcaaGreatDoor
