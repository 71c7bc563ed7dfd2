/- Part 37 of the proof. -/
import Derived.Test.YtcbjbgaefighcaaGreatDoorT0
import Derived.Test.YtcbjbgaefighcaaGreatDoorT4
import Derived.Test.YtcbjbgaefighcaaGreatDoorT11
import Derived.Test.YtcbjbgaefighcaaGreatDoorT25
import Derived.Test.YtcbjbgaefighcaaGreatDoorT26
import Derived.Test.YtcbjbgaefighcaaGreatDoorT31
import Derived.Test.YtcbjbgaefighcaaGreatDoorT33
import Derived.Test.YtcbjbgaefighcaaGreatDoorT34
import Derived.Test.YtcbjbgaefighcaaGreatDoorT35
import Derived.Test.YtcbjbgaefighcaaGreatDoorT36
import Derived.KernelRfl
import Derived.OpenShut
import Derived.Deep.Slices
import Derived.Test.YtcbjbgaefighcaaGreatDoorRows
import Derived.Lib.LaidTab
import Derived.RowKit3
import Derived.WideKeyArgs
import Derived.ReadAgain
import Derived.Carry
import Derived.WalkKit
import Derived.ProofKit
import Derived.Deep.DeepHandedRow
import Derived.Test.YtcbjbgaefighcaaGreatDoorCards
import Derived.Test.YtcbjbgaefighcaaGreatDoorTie
set_option linter.all false
namespace Go.Proofs.YtcbjbgaefighcaaGreatDoor
open Go Go.Ax Go.Proofs
def ex1:Bs:=[109,111,100,101,108,32,109,59,32,99,108,111,99,107,32,120,59,32,112,114,111,99,101,115,115,32,80,32,105,110,105,116,32,65,32,123,32,108,111,99,32,65,32,105,110,118,32,120,32,60,61,32,50,59,32,101,100,103,101,32,65,32,45,62,32,65,32,119,104,101,110,32,120,32,61,61,32,50,32,114,101,115,101,116,32,120,32,61,32,48,59,32,125]
def ex2:Bs:=[109,111,100,101,108,32,109,59,32,118,97,114,32,118,32,105,110,32,49,46,46,50,59]
def ex3:Bs:=[109,111,100,101,108,32,109,59,10,99,108,111,99,107,32,120,59,10,112,114,111,99,101,115,115,32,80,32,105,110,105,116,32,65,32,123,10,9,108,111,99,32,65,32,105,110,118,32,120,32,60,61,32,50,59,10,9,101,100,103,101,32,65,32,45,62,32,65,32,119,104,101,110,32,120,32,60,61,32,50,32,38,38,32,120,32,62,61,32,50,32,114,101,115,101,116,32,120,32,61,32,48,59,10,125,10]
def O9:Model:=⟨[109],[[120]],[],[],[],[⟨[80],[65],[⟨[65],0,[⟨[120],false,false,2⟩],0⟩],[⟨[65],[65],[⟨[120],false,false,2⟩,⟨[120],true,false,2⟩],.mk 0 [] 0 [],[],false,[],[⟨[120],0⟩],0,0⟩]⟩]⟩
theorem jQ:WP 1000 ex1=(O9,0,0):=by kernel_rfl
theorem jP:WP 1000 ex2=(Kp,22,80):=by kernel_rfl
theorem Cy:VV O9=0:=by kernel_rfl
theorem ex_t:Xr O9=ex3:=by kernel_rfl
theorem ex_s:Y4 O9 O9=true:=by kernel_rfl
theorem ex_n:Y4 O9 Kp=false:=by kernel_rfl
theorem ex_g:VV Kp=2:=by kernel_rfl
theorem Vr {α:Type}{p:α→α→Bool}:∀{xs ys:List α},(∀x∈xs,∀y,p x y=true↔x=y)→(Zn p xs ys=true↔xs=ys)
 |[],[],_=>by simp [Zn]
 |[],_::_,_=>by simp [Zn]
 |_::_,[],_=>by simp [Zn]
 |x::xs,y::ys,h=>by
  simp only[Zn,cD,fQ]
  rw[h x (by simp) y,Vr (xs:=xs) (ys:=ys) fun z hz=>h z (by simp [hz])]
mutual
theorem KW:∀a b:Exp,Y5 a b=true↔a=b
 | .mk k n i xs,.mk k2 n2 i2 ys=>by
  simp only[Y5,cD,beq_iff_eq,Exp.mk.injEq]
  rw[Lk xs ys]
theorem Lk:∀a b:List Exp,W9 a b=true↔a=b
 |[],[]=>by simp [W9]
 |[],_::_=>by simp [W9]
 |_::_,[]=>by simp [W9]
 |x::xs,y::ys=>by
  simp only[W9,cD,fQ]
  rw[KW x y,Lk xs ys]
end
mutual
theorem Mn:∀a b:Stmt,YM a b=true↔a=b
 | .mk k n v b e,.mk k2 n2 v2 b2 e2=>by
  simp only[YM,cD,beq_iff_eq,Stmt.mk.injEq]
  rw[KW v v2,IZ b b2,IZ e e2]
theorem IZ:∀a b:List Stmt,UD a b=true↔a=b
 |[],[]=>by simp [UD]
 |[],_::_=>by simp [UD]
 |_::_,[]=>by simp [UD]
 |x::xs,y::ys=>by
  simp only[UD,cD,fQ]
  rw[Mn x y,IZ xs ys]
end
theorem TW {xs ys:List Bs}:Zn (fun a b=>a==b) xs ys=true↔xs=ys:=Vr fun _ _ _=>beq_iff_eq
theorem Mm (a b:Test):Ur a b=true↔a=b:=by
 obtain⟨_,_,_,_⟩:=a;obtain⟨_,_,_,_⟩:=b
 simp only[Ur,cD,beq_iff_eq,Test.mk.injEq]
theorem Nz (a b:Clear):WB a b=true↔a=b:=by
 obtain⟨_,_⟩:=a;obtain⟨_,_⟩:=b
 simp only[WB,cD,beq_iff_eq,Clear.mk.injEq]
theorem Nu (a b:Var):W4 a b=true↔a=b:=by
 obtain⟨_,_,_,_⟩:=a;obtain⟨_,_,_,_⟩:=b
 simp only[W4,cD,beq_iff_eq,Var.mk.injEq]
theorem P6 (a b:Chan):UZ a b=true↔a=b:=by
 obtain⟨_,_,_⟩:=a;obtain⟨_,_,_⟩:=b
 simp only[UZ,cD,beq_iff_eq,Chan.mk.injEq]
theorem NA (a b:Assign):Ut a b=true↔a=b:=by
 obtain⟨_,v⟩:=a;obtain⟨_,v2⟩:=b
 simp only[Ut,cD,beq_iff_eq,Assign.mk.injEq,KW v v2]
theorem Ny (a b:Func):Us a b=true↔a=b:=by
 obtain⟨_,_,_⟩:=a;obtain⟨_,_,_⟩:=b
 simp only[Us,cD,beq_iff_eq,Func.mk.injEq,TW,Vr (p:=YM) fun x _ y=>Mn x y]
theorem Nx (a b:Loc):YZ a b=true↔a=b:=by
 obtain⟨n,k,v,r⟩:=a;obtain⟨n2,k2,v2,r2⟩:=b
 simp only[YZ,cD,beq_iff_eq,Loc.mk.injEq,Vr (p:=Ur) fun x _ y=>Mm x y]
 constructor
 ·rintro⟨h1,h2,h3,h4⟩;exact⟨h1,h2,h4,h3⟩
 ·rintro⟨h1,h2,h3,h4⟩;exact⟨h1,h2,h4,h3⟩
theorem P5 (a b:Edge):ZS a b=true↔a=b:=by
 obtain⟨_,_,_,c,_,_,_,_,_,_⟩:=a;obtain⟨_,_,_,c2,_,_,_,_,_,_⟩:=b
 simp only[ZS,cD,beq_iff_eq,Edge.mk.injEq,Vr (p:=Ur) fun x _ y=>Mm x y,Vr (p:=Ut) fun x _ y=>NA x y,Vr (p:=WB) fun x _ y=>Nz x y,KW c c2]
 constructor
 ·rintro⟨h1,h2,h3,h4,h5,h6,h7,h8,h9,h10⟩;exact⟨h1,h2,h7,h8,h3,h4,h9,h10,h5,h6⟩
 ·rintro⟨h1,h2,h7,h8,h3,h4,h9,h10,h5,h6⟩;exact⟨h1,h2,h3,h4,h5,h6,h7,h8,h9,h10⟩
theorem Nv (a b:Proc):YY a b=true↔a=b:=by
 obtain⟨_,_,_,_⟩:=a;obtain⟨_,_,_,_⟩:=b
 simp only[YY,cD,beq_iff_eq,Proc.mk.injEq,Vr (p:=YZ) fun x _ y=>Nx x y,Vr (p:=ZS) fun x _ y=>P5 x y]
theorem OK (a b:Model):Y4 a b=true↔a=b:=by
 obtain⟨_,_,_,_,_,_⟩:=a;obtain⟨_,_,_,_,_,_⟩:=b
 simp only[Y4,cD,beq_iff_eq,Model.mk.injEq,TW,Vr (p:=W4) fun x _ y=>Nu x y,Vr (p:=UZ) fun x _ y=>P6 x y,Vr (p:=Us) fun x _ y=>Ny x y,Vr (p:=YY) fun x _ y=>Nv x y]
theorem Lj (a:Model):Y4 a a=true:=(OK a a).2 rfl
theorem P4 (a b:Model):Y4 a b=Y4 b a:=by
 rw[fR,OK,OK];exact eq_comm
open Go.Ax.K
theorem qF:LtM Kp:={
 name:=by decide
 clocks:=by decide
 clock:=by intro c hc;cases hc
 vars:=by decide
 var:=by intro c hc;cases hc
 chans:=by decide
 chan:=by intro c hc;cases hc
 funcs:=by decide
 func:=by intro c hc;cases hc
 size:=by decide
 procs:=by decide
 proc:=by intro c hc;cases hc}
theorem Lb:LtM O9:={
 name:=by decide
 clocks:=by decide
 clock:=by decide
 vars:=by decide
 var:=by intro c hc;cases hc
 chans:=by decide
 chan:=by intro c hc;cases hc
 funcs:=by decide
 func:=by intro c hc;cases hc
 size:=by decide
 procs:=by decide
 proc:=by
  intro p hp
  rcases dV.1 hp with rfl
  refine⟨by decide,by decide,by decide,?_,by decide,?_⟩
  ·intro l hl
   rcases dV.1 hl with rfl
   exact⟨by decide,by decide,by decide⟩
  ·intro x hx
   rcases dV.1 hx with rfl
   refine⟨by decide,by decide,by decide,by decide,⟨⟨by decide,by decide,trivial⟩,by decide⟩,by decide,by decide,?_,by decide,by decide⟩
   intro a ha;cases ha}
section
variable (G:Nat→Option (List AV))
theorem n8 (hG:Gl G){A:Q2}:QB Tryz.prog G 8 [] A (bo true) A:=by
 refine Q4 l8 (fE rfl) ?_
 have h1:=fun A=>n9 G hG (N:=1000) (A:=A) (s:=ex1) (by decide)
 have h2:=fun A=>n9 G hG (N:=1000) (A:=A) (s:=ex2) (by decide)
 rw[jQ]at h1
 rw[jP]at h2
 have h3:=fun A=>n14 G hG O9 (A:=A) Lb
 rw[Cy,fC rfl,ex_t]at h3
 have h4:=fun A=>PM G O9 (A:=A) Lb
 have h5:=fun A=>PJ G O9 O9 (A:=A) Lb
 have h6:=fun A=>PJ G O9 Kp (A:=A) Lb
 have h7:=fun A=>PM G Kp (A:=A) qF
 rw[Cy]at h4
 rw[ex_s]at h5
 rw[ex_n]at h6
 rw[ex_g]at h7
 unfold C8
 simp only[Ir]at h1 h2
 refine Qb (fun env ds B=>ds=[]∧env 0=bo false∧B=A) ?_ ?_
 ·simp only[Q1,seval]
 rintro env _ B ⟨rfl,e0,rfl⟩
 simp only[Q1,seval]
 refine Q3 (h1 _) ?_
 have q1:O9.cells.length=6:=rfl
 have q2:O9.cells.all AV.one=true:=rfl
 have q3:O9.cells.take 6=O9.cells:=rfl
 have q4:Kp.cells.length=6:=rfl
 have q5:Kp.cells.all AV.one=true:=rfl
 simp only[q1,q2,q3,Q1,seval]
 intro p hp
 have hO:=(QU.refl B).set hp (o:=some (.cells O9.cells)) (by simp)
 have hp:(B.upd p (some (.cells O9.cells))) p=some (.cells O9.cells):=Q0 ..
 generalize B.upd p (some (.cells O9.cells))=B1 at*
 refine Q3 (h3 _) ?_
 simp only[Q1,seval]
 refine Q3 (h2 _) ?_
 simp only[q4,q5,Q1,seval]
 intro q hq
 have nq:=Q6 hp hq
 have hO:=hO.set (hO.gone hq) (o:=some (.cells Kp.cells)) (by simp)
 have hp:=(Q8 B1 q (some (.cells Kp.cells)) nq).trans hp
 generalize B1.upd q (some (.cells Kp.cells))=B2 at*
 simp only[hp,q1,q3,Q1,seval]
 refine⟨fun _=> ?_,fun h=>absurd rfl h⟩
 refine Q3 (h4 _) ?_
 simp only[hp,q1,q3,Q1,seval]
 refine Q3 (h5 _) ?_
 simp only[hp,q1,q3,Q1,seval]
 have h6':QB Tryz.prog G 18 [.agg O9.cells,.agg [.str [],.raw (.slice none 0 0),.raw (.slice none 0 0),.raw (.slice none 0 0),.raw (.slice none 0 0),.raw (.slice none 0 0)]] B2 (bo false) B2:=Qq.wk (.cons (Wk.refl _) (.cons Ig .nil)) (h6 _)
 have h7':QB Tryz.prog G 16 [.agg [.str [],.raw (.slice none 0 0),.raw (.slice none 0 0),.raw (.slice none 0 0),.raw (.slice none 0 0),.raw (.slice none 0 0)]] B2 (i64 2) B2:=Qq.wk (.cons Ig .nil) (h7 _)
 refine Q3 h6' ?_
 simp only[Q1,seval]
 refine Q3 h7' ?_
 simp only[Q1,seval]
 exact Qc rfl hO
theorem n5 (hG:Gl G)(a b:Model){A:Q2}(ha:LtM a)(hb:LtM b)(hs:SmM a):QB Tryz.prog G 5 [.agg a.cells,.agg b.cells] A (bo true) A:=by
 have h8:=fun A=>n8 G hG (A:=A)
 have ba:=fun A=>n12 G a (A:=A) ha
 have bb:=fun A=>n12 G b (A:=A) hb
 have s1:=fun A=>n11 G a b (A:=A) ha
 have s2:=fun A=>PJ G a b (A:=A) ha
 have s3:=fun A=>PJ G b a (A:=A) hb
 have s4:=fun A=>PJ G a a (A:=A) ha
 have c1:=fun A=>n13 G a (A:=A) hs
 rw[P4 b a]at s3
 rw[Lj]at s4
 have la:a.cells.length=6:=rfl
 have lb:b.cells.length=6:=rfl
 have ta:a.cells.take 6=a.cells:=rfl
 have tb:b.cells.take 6=b.cells:=rfl
 generalize a.cells=ca at*
 generalize b.cells=cb at*
 generalize Y4 a b=w at*
 refine Q4 l5 (fE rfl) ?_
 unfold C5
 refine Vp rfl rfl fun p q env B e2 e3 hp hq hO=> ?_
 refine Qb (fun env ds B'=>ds=[]∧env 2=.ptr p 0∧env 3=.ptr q 0∧B=B') ?_ ?_
 ·simp only[Q1,seval]
  refine Q3 (h8 _) ?_
  simp only[e2,e3,Q1,seval]
 clear e2 e3
 rintro env _ _ ⟨rfl,e2,e3,rfl⟩
 refine Qb (fun env ds B'=>ds=[]∧env 2=.ptr p 0∧env 3=.ptr q 0∧B=B') ?_ ?_
 ·simp only[e2,e3,hp,la,ta,Q1,seval]
  refine Qg (ba _) ?_
  rintro o B ⟨⟨t,rfl⟩,rfl⟩
  cases t with
  |true=>
   simp only[Q1,seval]
   exact Qc rfl hO
  |false=>
  simp only[e2,e3,hq,lb,tb,Q1,seval]
  refine Qg (bb _) ?_
  rintro o B ⟨⟨t,rfl⟩,rfl⟩
  cases t with
  |true=>
   simp only[Q1,seval]
   exact Qc rfl hO
  |false=>
  simp only[e2,e3,Q1,seval]
 clear e2 e3
 rintro env _ _ ⟨rfl,e2,e3,rfl⟩
 refine Qb (fun env ds B'=>ds=[]∧env 2=.ptr p 0∧env 3=.ptr q 0∧env 5=bo w∧B=B') ?_ ?_
 ·simp only[e2,e3,hp,hq,la,ta,lb,tb,Q1,seval]
  refine Q3 (s1 _) ?_
  simp only[e2,e3,Q1,seval]
 clear e2 e3
 rintro env _ _ ⟨rfl,e2,e3,e5,rfl⟩
 have ew:Qh .eql .bool (bo w) (bo w)=some (bo true):=by cases w <;> rfl
 simp only[e2,e3,e5,hp,hq,la,ta,lb,tb,Q1,seval]
 refine Q3 (s2 _) ?_
 simp only[ew,e2,e3,e5,hp,hq,la,ta,lb,tb,QM,Q1,seval]
 refine Q3 (s3 _) ?_
 simp only[ew,e2,e3,e5,hp,hq,la,ta,lb,tb,QM,Q1,seval]
 refine Q3 (c1 _) ?_
 simp only[hp,hq,la,ta,lb,tb,QM,Q1,seval]
 refine Q3 (s4 _) ?_
 simp only[QM,Q1,seval]
 exact Qc rfl hO
end
end Go.Proofs.YtcbjbgaefighcaaGreatDoor
namespace Go.Proofs.YtcbjbgaefighcaaGreatDoor
open Go Go.Ax Go.Proofs
def κW (W:World):Kn:=⟨fun _=>none,fun b o=>W.cell? ⟨b,o,none⟩⟩
def ZM {α:Type}(wt:α→Nat):List α→Nat
 |[]=>0
 |x::xs=>wt x+ZM wt xs
theorem GP {α:Type}{wt:α→Nat}:∀{a b:List α},ZM wt (a++b)=ZM wt a+ZM wt b
 |[],_=>by simp [ZM]
 |x::a,b=>by simp only[cF,ZM,GP (a:=a)];omega
section
variable {H:Type}(en:TypeId×Value→H)(W:World)
def Rd (t:TypeId){α:Type}(enc:α→List AV)(wt:α→Nat)(n:Nat):Prop:=
 ∀k,k≤n→∀(cs:List Value) (x:DataW H×List MemPlace),DataW.trod en Tryz.prog W 0 (fun _=>true) true k t cs=some x→∃a:α,Qi (κW W) (enc a) cs∧wt a≤Rows.uptoBulk x.1
variable {en W}
theorem Rd.le {t:TypeId}{α:Type}{enc:α→List AV}{wt:α→Nat}{n m:Nat}(h:Rd en W t enc wt n)(hm:m≤n):Rd en W t enc wt m:=fun k hk=>h k (by omega)
theorem Rd.map {t:TypeId}{α β:Type}{enc:α→List AV}{wt:α→Nat}{enc':β→List AV}{wt':β→Nat}{n:Nat}(f:α→β)(h:Rd en W t enc wt n)(he:∀a,enc' (f a)=enc a)(hw:∀a,wt' (f a)≤wt a):Rd en W t enc' wt' n:=fun k hk cs x hx=>by
 obtain⟨a,h1,h2⟩:=h k hk cs x hx
 exact⟨f a,by rw[he];exact h1,fI (hw a) h2⟩
theorem VQ {t:TypeId}{α:Type}{enc:α→List AV}{wt:α→Nat}:Rd en W t enc wt 0:=fun k hk cs x hx=>by
 obtain rfl:k=0:=by omega
 simp [DataW.trod]at hx
theorem Ve {t:TypeId}(ht:Tryz.prog.underlying t=some .string)(n:Nat):Rd en W t Zp (fun s=>s.length+1) n:=fun k hk cs x hx=>by
 obtain⟨s,rfl,rfl,_⟩:=DataW.trod_string ht hx
 refine⟨s.data.toList,?_,by simp [Rows.uptoBulk]⟩
 exact Yg (by simp [Qd])
theorem UE {t:TypeId}(ht:Tryz.prog.underlying t=some (.int .i64))(n:Nat):Rd en W t (fun i:Int=>[i64 i]) (fun _=>1) n:=fun k hk cs x hx=>by
 obtain⟨i,rfl,rfl,_⟩:=DataW.trod_int ht hx
 exact⟨i,Yg (by simp [Qd]),by simp [Rows.uptoBulk]⟩
theorem Iq {t:TypeId}(ht:Tryz.prog.underlying t=some .bool)(n:Nat):Rd en W t (fun b:Bool=>[bo b]) (fun _=>1) n:=fun k hk cs x hx=>by
 obtain⟨i,rfl,rfl⟩:=DataW.trod_bool ht hx
 exact⟨i,Yg (by simp [Qd]),by simp [Rows.uptoBulk]⟩
theorem PF {a:Addr}{W:World}{v:Value}(h:W.cell? a=some v):a=⟨a.block,a.off,none⟩:=by
 obtain⟨b,o,s⟩:=a
 cases s with
 |none=>rfl
 |some x=>simp only[World.cell?]at h;split at h <;> simp at h
theorem Sh {us:List Value}{es:List AV}{b o:Nat}(h:Qi (κW W) es us)(hc:∀j,j<us.length→W.cell? ⟨b,o+j,none⟩=us[j]?):Zs (κW W) b es o:=by
 induction es generalizing us o with
 |nil=>simp [Zs]
 |cons e es ih=>
  simp only[Qi]at h
  obtain⟨x,xs,rfl,h1,h2⟩:=h
  simp only[Zs]
  refine⟨⟨x,by simpa[κW]using hc 0 (by simp),h1⟩,ih h2 fun j hj=> ?_⟩
  have:=hc (j+1) (by simpa using hj)
  rw[Nat.add_assoc,Nat.add_comm 1 j]
  simpa using this
theorem MK (b o n:Nat):(⟨b,o,none⟩:Addr).add n=⟨b,o+n,none⟩:=by
 unfold Addr.add
 split
 ·rename_i h;subst h;rfl
 ·rfl
theorem Yt {t e:TypeId}{α:Type}{enc:α→List AV}{wt:α→Nat}{n sz:Nat}(ht:Tryz.prog.underlying t=some (.slice e))(hs:Tryz.prog.cellsOf e=sz)(hpos:0<sz)(hl:∀a,(enc a).length=sz)(h:Rd en W e enc wt n):
 Rd en W t (fun l=>[Qr sz enc l]) (fun l=>1+ZM wt l) (n+1):=fun k hk cs x hx=>by
 rcases DataW.trod_slice ht hx with⟨rfl,rfl⟩|⟨a,len,cap,elems,rest,m,rfl,rfl,rfl,_,hlc,_,hlen,hel,hsp,_⟩
 ·exact⟨[],Yg (by simp [Qr,Qd]),by simp [ZM,Rows.uptoBulk]⟩
 rw[hs]at hel hsp
 obtain⟨hrl,hre⟩:=hsp rfl
 by_cases hcap:cap=0
 ·obtain rfl:len=0:=by omega
  subst hcap
  exact⟨[],Yg (by simp only[Qr,Qd];exact .inl ⟨trivial,rfl,rfl,some a,rfl⟩),by simp only[ZM,Rows.uptoBulk];omega⟩
 have hsp:∃us,W.cells? 0 (a.add 0) sz=some us:=by
  by_cases h0:len=0
  ·subst h0
   have h5:=hre 0 (by omega)
   rw[dY (by omega)]at h5
   obtain⟨us,h6,_⟩:=fN.1 h5
   exact⟨us,by simpa using h6⟩
  ·have h5:=hel 0 (by omega)
   rw[dY (by omega)]at h5
   obtain⟨us,h6,_⟩:=fN.1 h5
   exact⟨us,by simpa using h6⟩
 obtain⟨us,hus⟩:=hsp
 obtain⟨_,k1,k2⟩:=World.cells?_some hus
 have ha:a=⟨a.block,a.off,none⟩:=by
  have e0:=k2 0 (by omega)
  rw[dY (by omega)]at e0
  exact PF (by simpa[Addr.add]using e0)
 rw[ha]at hel⊢
 generalize a.block=b at*
 generalize a.off=o at*
 clear hus k1 k2 us ha hre hrl
 have key:∀(xs:List (DataW H×List MemPlace)) (i:Nat),i+xs.length=len→(∀j,j<xs.length→elems[i+j]? =xs[j]?)→
  ∃l:List α,l.length=xs.length∧Zs (κW W) b (l.flatMap enc) (o+i*sz)∧ZM wt l≤Rows.uptoBulkAll (xs.map (·.1)):=by
  intro xs
  induction xs with
  |nil=>intro i _ _;exact⟨[],rfl,by simp [Zs],by simp [ZM]⟩
  |cons x xs ih=>
   intro i hi hx
   obtain⟨l,h1,h3,h4⟩:=ih (i+1) (by simp at hi;omega) fun j hj=>by
    have:=hx (j+1) (by simpa using hj)
    rw[Nat.add_assoc,Nat.add_comm 1 j];simpa using this
   have h5:=hel i (by simp at hi;omega)
   rw[show elems[i]? =some x by simpa using hx 0 (by simp)]at h5
   obtain⟨us,h6,h7⟩:=fN.1 h5
   obtain⟨y,h8,h9⟩:=h m (by omega) us x h7
   obtain⟨_,k1,k2⟩:=World.cells?_some h6
   refine⟨y::l,by simp [h1],?_,by simp only[ZM,cJ,Rows.uptoBulkAll];omega⟩
   rw[dD]
   refine Zs.append (Sh h8 fun j hj=> ?_) ?_
   ·have:=k2 j (by omega)
    rw[MK,MK]at this
    exact this
   ·rw[hl y,Nat.add_assoc,show i*sz+sz=(i+1)*sz by rw[Nat.succ_mul]]
    exact h3
 obtain⟨l,h1,h3,h4⟩:=key elems 0 (by simpa using hlen) fun j _=>by simp
 refine⟨l,Yg ?_,by simp only[Rows.uptoBulk];omega⟩
 simp only[Qr,Qd]
 refine .inr ⟨b,o,cap,by rw[h1,hlen],by omega,?_,by simpa using h3,fun t ht=>by cases ht⟩
 clear h3 h4 key h1
 induction l with
 |nil=>simp
 |cons y l ih=>rw[dD,cC,hl y,ih,cE,Nat.succ_mul];omega
inductive RdS {H:Type} (en:TypeId×Value→H) (W:World) (n:Nat):List (TypeId×Nat×Nat)→Nat→(α:Type)→(α→List AV)→(α→Nat)→Prop where
 |nil {off:Nat}:RdS en W n [] off Unit (fun _=>[]) (fun _=>0)
 |cons {t:TypeId} {off sz:Nat} {fs:List (TypeId×Nat×Nat)} {α β:Type} {enc:α→List AV} {wt:α→Nat} {enc':β→List AV} {wt':β→Nat} (h:Rd en W t enc wt n) (hs:RdS en W n fs (off+sz) β enc' wt'):
  RdS en W n ((t,off,sz)::fs) off (α×β) (fun p=>enc p.1++enc' p.2) (fun p=>wt p.1+wt' p.2)
theorem TH {κ:Kn}:∀{a b:List AV} {us vs:List Value},Qi κ a us→Qi κ b vs→Qi κ (a++b) (us++vs)
 |[],_,_,_,h,k=>by simp only[Qi]at h;subst h;simpa using k
 |c::a,b,_,vs,h,k=>by
  simp only[Qi]at h
  obtain⟨x,xs,rfl,h1,h2⟩:=h
  simp only[cF,Qi]
  exact⟨x,xs++vs,rfl,h1,TH h2 k⟩
theorem NF {n m:Nat}(hm:m≤n){cs:List Value}:∀{fs:List (TypeId×Nat×Nat)} {off:Nat} {α:Type} {enc:α→List AV} {wt:α→Nat},RdS en W n fs off α enc wt→∀(xs:List (DataW H×List MemPlace)),xs.length=fs.length→
 cs.length=off+(fs.map (·.2.2)).sum→(∀(i:Nat) (f:TypeId×Nat×Nat),fs[i]? =some f→DataW.trod en Tryz.prog W 0 (fun _=>true) true m f.1 ((cs.drop f.2.1).take f.2.2)=xs[i]?)→
 ∃a:α,Qi (κW W) (enc a) (cs.drop off)∧wt a≤Rows.uptoBulkAll (xs.map (·.1)):=by
 intro fs off α enc wt h
 induction h with
 |nil=>
  intro xs _ hl _
  exact⟨(),by rw[List.drop_of_length_le (by simp at hl;omega)];simp [Qi],lO _⟩
 |cons h hs ih=>
  rename_i t off sz fs α β enc wt enc' wt'
  intro xs hxl hl hf
  match xs,hxl with
  |x::xs,hxl=>
  obtain⟨a,h1,h2⟩:=h m hm _ x (by simpa using hf 0 _ rfl)
  obtain⟨b,h3,h4⟩:=ih xs (by simpa using hxl) (by simp at hl;omega) fun i f hi=>by simpa using hf (i+1) f (by simpa using hi)
  refine⟨(a,b),?_,by simp only[cJ,Rows.uptoBulkAll];omega⟩
  have:=TH h1 h3
  rwa [show(cs.drop off).take sz++cs.drop (off+sz)=cs.drop off by rw[←lC,fY]]at this
theorem Yv {t:TypeId}{fs:Array Field}{n:Nat}{α:Type}{enc:α→List AV}{wt:α→Nat}{l:List (TypeId×Nat×Nat)}(ht:Tryz.prog.underlying t=some (.struct fs))(hl:fs.toList.map (fun f=>(f.type,f.offset,Tryz.prog.cellsOf f.type))=l)(hs:Tryz.prog.cellsOf t=(l.map (·.2.2)).sum)
 (h:RdS en W n l 0 α enc wt):Rd en W t enc (fun a=>1+wt a) (n+1):=fun k hk cs x hx=>by
 obtain⟨xs,m,rfl,rfl,hcl,hxl,hf⟩:=DataW.trod_struct ht hx
 obtain⟨a,h1,h2⟩:=NF (m:=m) (by omega) (cs:=cs) h xs (by rw[hxl,←hl];simp) (by rw[hcl,hs,lN]) fun i f hi=>by
  rw[←hl,List.getElem?_map,cG]at hi
  obtain⟨g,hg,rfl⟩:=hi
  have hg2:fs[i]? =some g:=by rw[←Array.getElem?_toList];exact hg
  have h3:=hf i g hg2
  simp only
  exact h3
 exact⟨a,by simpa using h1,by simp only[Rows.uptoBulk];omega⟩
end
def wS (s:Bs):Nat:=s.length+1
mutual
def wE:Exp→Nat
 | .mk _ n _ xs=>1+n.length+Hj xs
def Hj:List Exp→Nat
 |[]=>0
 |x::xs=>wE x+Hj xs
end
theorem Te:∀xs:List Exp,Hj xs=ZM wE xs
 |[]=>rfl
 |x::xs=>by simp only[Hj,ZM,Te xs]
mutual
def O7:Stmt→Nat
 | .mk _ n v b e=>1+n.length+wE v+UW b+UW e
def UW:List Stmt→Nat
 |[]=>0
 |x::xs=>O7 x+UW xs
end
theorem Il:∀xs:List Stmt,UW xs=ZM O7 xs
 |[]=>rfl
 |x::xs=>by simp only[UW,ZM,Il xs]
def wT (t:Test):Nat:=1+t.clock.length
def LZ (t:Clear):Nat:=1+t.clock.length
def wV (t:Var):Nat:=1+t.name.length
def M0 (t:Chan):Nat:=1+t.name.length
def wA (a:Assign):Nat:=1+a.name.length+wE a.val
def wL (l:Loc):Nat:=1+l.name.length+ZM wT l.inv
def Hk (x:Edge):Nat:=1+x.src.length+x.dst.length+ZM wT x.tests+wE x.cond+x.chan.length+ZM wA x.sets+ZM LZ x.clears
def wP (p:Proc):Nat:=1+p.name.length+p.init.length+ZM wL p.locs+ZM Hk p.edges
def wF (f:Func):Nat:=1+f.name.length+ZM wS f.params+ZM O7 f.body
def wM (m:Model):Nat:=1+m.name.length+ZM wS m.clocks+ZM wV m.vars+ZM M0 m.chans+ZM wF m.funcs+ZM wP m.procs
section
variable {H:Type}{en:TypeId×Value→H}{W:World}
theorem Si (n:Nat):Rd en W 23 (fun l=>[Qr 1 Zp l]) (fun l=>1+ZM wS l) n:=(Yt (sz:=1) Tryz.underlying23 (by kernel_rfl) (by decide) (fun _=>rfl) (Ve Tryz.underlying9 n)).le (fV n)
theorem rd_T:∀n,Rd en W 179 Test.cells wT n
 |0=>VQ
 |n+1=>(Yv (l:=[(9,0,1),(4,1,1),(4,2,1),(2,3,1)]) Tryz.underlying179 (by kernel_rfl) (by kernel_rfl) (.cons (Ve Tryz.underlying9 n) (.cons (Iq Tryz.underlying4 n) (.cons (Iq Tryz.underlying4 n) (.cons (UE Tryz.underlying2 n) .nil))))).map (fun p=>⟨p.1,p.2.1,p.2.2.1,p.2.2.2.1⟩) (fun p=>rfl) (fun p=>by simp only[wT,wS];omega)
theorem zX:∀n,Rd en W 163 Clear.cells LZ n
 |0=>VQ
 |n+1=>(Yv (l:=[(9,0,1),(2,1,1)]) Tryz.underlying163 (by kernel_rfl) (by kernel_rfl) (.cons (Ve Tryz.underlying9 n) (.cons (UE Tryz.underlying2 n) .nil))).map (fun p=>⟨p.1,p.2.1⟩) (fun p=>rfl) (fun p=>by simp only[LZ,wS];omega)
theorem rd_V:∀n,Rd en W 88 Var.cells wV n
 |0=>VQ
 |n+1=>(Yv (l:=[(9,0,1),(2,1,1),(2,2,1),(2,3,1)]) Tryz.underlying88 (by kernel_rfl) (by kernel_rfl) (.cons (Ve Tryz.underlying9 n) (.cons (UE Tryz.underlying2 n) (.cons (UE Tryz.underlying2 n) (.cons (UE Tryz.underlying2 n) .nil))))).map (fun p=>⟨p.1,p.2.1,p.2.2.1,p.2.2.2.1⟩) (fun p=>rfl) (fun p=>by simp only[wV,wS];omega)
theorem zY:∀n,Rd en W 90 Chan.cells M0 n
 |0=>VQ
 |n+1=>(Yv (l:=[(9,0,1),(4,1,1),(4,2,1)]) Tryz.underlying90 (by kernel_rfl) (by kernel_rfl) (.cons (Ve Tryz.underlying9 n) (.cons (Iq Tryz.underlying4 n) (.cons (Iq Tryz.underlying4 n) .nil)))).map (fun p=>⟨p.1,p.2.1,p.2.2.1⟩) (fun p=>rfl) (fun p=>by simp only[M0,wS];omega)
theorem Ec (n:Nat):Rd en W 49 (fun l=>[Qr 4 Test.cells l]) (fun l=>1+ZM wT l) n:=(Yt (sz:=4) Tryz.underlying49 (by kernel_rfl) (by decide) (fun _=>rfl) (rd_T n)).le (fV n)
theorem AR (n:Nat):Rd en W 51 (fun l=>[Qr 2 Clear.cells l]) (fun l=>1+ZM LZ l) n:=(Yt (sz:=2) Tryz.underlying51 (by kernel_rfl) (by decide) (fun _=>rfl) (zX n)).le (fV n)
theorem zR (n:Nat):Rd en W 24 (fun l=>[Qr 4 Var.cells l]) (fun l=>1+ZM wV l) n:=(Yt (sz:=4) Tryz.underlying24 (by kernel_rfl) (by decide) (fun _=>rfl) (rd_V n)).le (fV n)
theorem AS (n:Nat):Rd en W 25 (fun l=>[Qr 3 Chan.cells l]) (fun l=>1+ZM M0 l) n:=(Yt (sz:=3) Tryz.underlying25 (by kernel_rfl) (by decide) (fun _=>rfl) (zY n)).le (fV n)
theorem SK:∀n,Rd en W 42 Exp.cells wE n
 |0=>VQ
 |n+1=>(Yv (l:=[(3,0,1),(9,1,1),(2,2,1),(40,3,1)]) Tryz.underlying42 (by kernel_rfl) (by kernel_rfl) (.cons (UE Tryz.underlying3 n) (.cons (Ve Tryz.underlying9 n) (.cons (UE Tryz.underlying2 n) (.cons ((Yt (sz:=4) Tryz.underlying40 (by kernel_rfl) (by decide) Exp.cells_len (SK n)).le (fV n)) .nil))))).map
  (fun p=>.mk p.1 p.2.1 p.2.2.1 p.2.2.2.1) (fun p=>by simp only[Exp.cells,Exp.cellsL_eq,Qr,Zp];rfl) (fun p=>by simp only[wE,Te];omega)
theorem ST:∀n,Rd en W 175 Stmt.cells O7 n
 |0=>VQ
 |n+1=>(Yv (l:=[(3,0,1),(9,1,1),(42,2,4),(78,6,1),(78,7,1)]) Tryz.underlying175 (by kernel_rfl) (by kernel_rfl) (.cons (UE Tryz.underlying3 n) (.cons (Ve Tryz.underlying9 n) (.cons (SK n) (.cons ((Yt (sz:=8) Tryz.underlying78 (by kernel_rfl) (by decide) Stmt.cells_len (ST n)).le (fV n)) (.cons ((Yt (sz:=8) Tryz.underlying78 (by kernel_rfl) (by decide) Stmt.cells_len (ST n)).le (fV n)) .nil)))))).map
  (fun p=>.mk p.1 p.2.1 p.2.2.1 p.2.2.2.1 p.2.2.2.2.1) (fun p=>by simp only[Stmt.cells,Stmt.cellsL_eq,Qr,Zp,cU];rfl) (fun p=>by simp only[O7,Il];omega)
theorem AP (n:Nat):Rd en W 78 (fun l=>[Qr 8 Stmt.cells l]) (fun l=>1+ZM O7 l) n:=(Yt (sz:=8) Tryz.underlying78 (by kernel_rfl) (by decide) Stmt.cells_len (ST n)).le (fV n)
theorem rd_A:∀n,Rd en W 56 Assign.cells wA n
 |0=>VQ
 |n+1=>(Yv (l:=[(9,0,1),(42,1,4)]) Tryz.underlying56 (by kernel_rfl) (by kernel_rfl) (.cons (Ve Tryz.underlying9 n) (.cons (SK n) .nil))).map (fun p=>⟨p.1,p.2.1⟩) (fun p=>by simp only[Assign.cells,Zp,cN];rfl) (fun p=>by simp only[wA,wS];omega)
theorem zZ (n:Nat):Rd en W 50 (fun l=>[Qr 5 Assign.cells l]) (fun l=>1+ZM wA l) n:=(Yt (sz:=5) Tryz.underlying50 (by kernel_rfl) (by decide) Assign.cells_len (rd_A n)).le (fV n)
theorem rd_L:∀n,Rd en W 97 Loc.cells wL n
 |0=>VQ
 |n+1=>(Yv (l:=[(9,0,1),(3,1,1),(49,2,1),(2,3,1)]) Tryz.underlying97 (by kernel_rfl) (by kernel_rfl) (.cons (Ve Tryz.underlying9 n) (.cons (UE Tryz.underlying3 n) (.cons (Ec n) (.cons (UE Tryz.underlying2 n) .nil))))).map (fun p=>⟨p.1,p.2.1,p.2.2.1,p.2.2.2.1⟩) (fun p=>rfl) (fun p=>by simp only[wL,wS];omega)
theorem zU (n:Nat):Rd en W 45 (fun l=>[Qr 4 Loc.cells l]) (fun l=>1+ZM wL l) n:=(Yt (sz:=4) Tryz.underlying45 (by kernel_rfl) (by decide) (fun _=>rfl) (rd_L n)).le (fV n)
theorem zW:∀n,Rd en W 53 Edge.cells Hk n
 |0=>VQ
 |n+1=>(Yv (l:=[(9,0,1),(9,1,1),(49,2,1),(42,3,4),(9,7,1),(4,8,1),(50,9,1),(51,10,1),(2,11,1),(3,12,1)]) Tryz.underlying53 (by kernel_rfl) (by kernel_rfl) (.cons (Ve Tryz.underlying9 n) (.cons (Ve Tryz.underlying9 n) (.cons (Ec n) (.cons (SK n) (.cons (Ve Tryz.underlying9 n) (.cons (Iq Tryz.underlying4 n) (.cons (zZ n) (.cons (AR n) (.cons (UE Tryz.underlying2 n) (.cons (UE Tryz.underlying3 n) .nil))))))))))).map (fun p=>⟨p.1,p.2.1,p.2.2.1,p.2.2.2.1,p.2.2.2.2.1,p.2.2.2.2.2.1,p.2.2.2.2.2.2.1,p.2.2.2.2.2.2.2.1,p.2.2.2.2.2.2.2.2.1,p.2.2.2.2.2.2.2.2.2.1⟩) (fun p=>by simp only[Edge.cells,Zp,cU];rfl) (fun p=>by simp only[Hk,wS];omega)
theorem AQ (n:Nat):Rd en W 46 (fun l=>[Qr 13 Edge.cells l]) (fun l=>1+ZM Hk l) n:=(Yt (sz:=13) Tryz.underlying46 (by kernel_rfl) (by decide) Edge.cells_len (zW n)).le (fV n)
theorem rd_P:∀n,Rd en W 48 Proc.cells wP n
 |0=>VQ
 |n+1=>(Yv (l:=[(9,0,1),(9,1,1),(45,2,1),(46,3,1)]) Tryz.underlying48 (by kernel_rfl) (by kernel_rfl) (.cons (Ve Tryz.underlying9 n) (.cons (Ve Tryz.underlying9 n) (.cons (zU n) (.cons (AQ n) .nil))))).map (fun p=>⟨p.1,p.2.1,p.2.2.1,p.2.2.2.1⟩) (fun p=>rfl) (fun p=>by simp only[wP,wS];omega)
theorem zT (n:Nat):Rd en W 27 (fun l=>[Qr 4 Proc.cells l]) (fun l=>1+ZM wP l) n:=(Yt (sz:=4) Tryz.underlying27 (by kernel_rfl) (by decide) (fun _=>rfl) (rd_P n)).le (fV n)
theorem rd_F:∀n,Rd en W 80 Func.cells wF n
 |0=>VQ
 |n+1=>(Yv (l:=[(9,0,1),(23,1,1),(78,2,1)]) Tryz.underlying80 (by kernel_rfl) (by kernel_rfl) (.cons (Ve Tryz.underlying9 n) (.cons (Si n) (.cons (AP n) .nil)))).map (fun p=>⟨p.1,p.2.1,p.2.2.1⟩) (fun p=>rfl) (fun p=>by simp only[wF,wS];omega)
theorem zV (n:Nat):Rd en W 26 (fun l=>[Qr 3 Func.cells l]) (fun l=>1+ZM wF l) n:=(Yt (sz:=3) Tryz.underlying26 (by kernel_rfl) (by decide) (fun _=>rfl) (rd_F n)).le (fV n)
theorem rd_M:∀n,Rd en W 29 Model.cells wM n
 |0=>VQ
 |n+1=>(Yv (l:=[(9,0,1),(23,1,1),(24,2,1),(25,3,1),(26,4,1),(27,5,1)]) Tryz.underlying29 (by kernel_rfl) (by kernel_rfl) (.cons (Ve Tryz.underlying9 n) (.cons (Si n) (.cons (zR n) (.cons (AS n) (.cons (zV n) (.cons (zT n) .nil))))))).map (fun p=>⟨p.1,p.2.1,p.2.2.1,p.2.2.2.1,p.2.2.2.2.1,p.2.2.2.2.2.1⟩) (fun p=>rfl) (fun p=>by simp only[wM,wS];omega)
end
theorem YI {α:Type}{wt:α→Nat}:∀{xs:List α} {x:α},x∈xs→wt x≤ZM wt xs
 |y::ys,x,h=>by
  simp only[ZM]
  rcases dT.1 h with rfl|h
  ·omega
  ·have:=YI (wt:=wt) h;omega
theorem Y2 {α:Type}{wt:α→Nat}(h:∀x,1≤wt x):∀{xs:List α},xs.length≤ZM wt xs
 |[]=>lO _
 |x::xs=>by have:=Y2 h (xs:=xs);have:=h x;simp only[ZM,cE];omega
theorem AE:∀x,1≤wE x
 | .mk _ _ _ _=>by simp only[wE];omega
theorem RT:∀x,1≤O7 x
 | .mk _ _ _ _ _=>by simp only[O7];omega
theorem En (xs:List Exp):xs.length≤Hj xs:=by rw[Te];exact Y2 AE
theorem Tl (xs:List Stmt):xs.length≤UW xs:=by rw[Il];exact Y2 RT
mutual
theorem Td:∀x:Exp,wE x≤2097152→Xl x∧HY x∧(ZH x).nodes≤wE x
 | .mk _ n _ xs,h=>by
  simp only[wE]at h
  have hl:=En xs
  obtain⟨h1,h2,h3⟩:=Eg xs ⟨1,1,decide (xs.length>4)⟩ (by omega)
  exact⟨by simp only[Xl];exact⟨by omega,by omega,h1⟩,by simp only[HY];exact⟨by omega,h2⟩,by simp only[ZH,wE];simp only at h3;omega⟩
theorem Eg:∀(xs:List Exp) (m:Siz),Hj xs≤2097152→Hx xs∧LF xs∧(Jw m xs).nodes≤m.nodes+Hj xs
 |[],m,_=>⟨trivial,trivial,by simp [Jw,Hj]⟩
 |x::xs,m,h=>by
  simp only[Hj]at h
  obtain⟨a1,a2,a3⟩:=Td x (by omega)
  obtain⟨b1,b2,b3⟩:=Eg xs (m.inn (ZH x)) (by omega)
  refine⟨by simp only[Hx];exact⟨a1,b1⟩,by simp only[LF];exact⟨a2,b2⟩,?_⟩
  simp only[Jw,Hj]
  have:(m.inn (ZH x)).nodes=m.nodes+(ZH x).nodes:=rfl
  omega
end
mutual
theorem DV:∀x:Stmt,O7 x≤2097152→Kq x∧PH x∧(Jc x).nodes≤O7 x
 | .mk _ n v b e,h=>by
  simp only[O7]at h
  have hl1:=Tl b
  have hl2:=Tl e
  obtain⟨a1,a2,a3⟩:=Td v (by omega)
  obtain⟨b1,b2,b3⟩:=MX b (Siz.inn ⟨1,1,false⟩ (ZH v)) (by omega)
  obtain⟨c1,c2,c3⟩:=MX e (Z7 (Siz.inn ⟨1,1,false⟩ (ZH v)) b) (by omega)
  refine⟨by simp only[Kq];exact⟨by omega,a1,by omega,by omega,b1,c1⟩,by simp only[PH];exact⟨a2,by omega,by omega,b2,c2⟩,?_⟩
  simp only[Jc,O7]
  have:(Siz.inn ⟨1,1,false⟩ (ZH v)).nodes=1+(ZH v).nodes:=rfl
  omega
theorem MX:∀(xs:List Stmt) (m:Siz),UW xs≤2097152→Wn xs∧IB xs∧(Z7 m xs).nodes≤m.nodes+UW xs
 |[],m,_=>⟨trivial,trivial,by simp [Z7,UW]⟩
 |x::xs,m,h=>by
  simp only[UW]at h
  obtain⟨a1,a2,a3⟩:=DV x (by omega)
  obtain⟨b1,b2,b3⟩:=MX xs (m.inn (Jc x)) (by omega)
  refine⟨by simp only[Wn];exact⟨a1,b1⟩,by simp only[IB];exact⟨a2,b2⟩,?_⟩
  simp only[Z7,UW]
  have:(m.inn (Jc x)).nodes=m.nodes+(Jc x).nodes:=rfl
  omega
end
theorem RZ:∀(xs:List Stmt) (m:Siz),UW xs≤2097152→(Zt m xs).nodes≤m.nodes+UW xs
 |[],m,_=>by simp [Zt,UW]
 |x::xs,m,h=>by
  simp only[UW]at h
  have a:=(DV x (by omega)).2.2
  have b:=RZ xs (m.bes (Jc x)) (by omega)
  have:(m.bes (Jc x)).nodes=m.nodes+(Jc x).nodes:=rfl
  simp only[UW]
  show(Zt (m.bes (Jc x)) xs).nodes≤_
  omega
theorem S8:∀(xs:List Func) (m:Siz),ZM wF xs≤2097152→(ZY m xs).nodes≤m.nodes+ZM wF xs
 |[],m,_=>by simp [ZY,ZM]
 |x::xs,m,h=>by
  simp only[ZM]at h
  have hw:UW x.body≤wF x:=by rw[Il];simp only[wF];omega
  have a:=RZ x.body m (by omega)
  have b:=S8 xs (Zt m x.body) (by omega)
  simp only[ZM]
  show(ZY (Zt m x.body) xs).nodes≤_
  omega
theorem Cr (f:Func)(h:wF f≤2097152):Og f∧smF f:=by
 simp only[wF]at h
 have hl1:=Y2 (wt:=wS) (fun _=>by simp only[wS];omega) (xs:=f.params)
 have hl2:=Y2 RT (xs:=f.body)
 obtain⟨b1,b2,_⟩:=MX f.body ⟨0,0,false⟩ (by rw[Il];omega)
 exact⟨⟨by omega,by omega,fun p hp=>by have:=YI (wt:=wS) hp;simp only[wS]at this;omega,by omega,b1⟩,by omega,by omega,b2⟩
theorem Cb (l:Loc)(h:wL l≤2097152):ltL l∧l.inv.length≤2097152:=by
 simp only[wL]at h
 have hl1:=Y2 (wt:=wT) (fun _=>by simp only[wT];omega) (xs:=l.inv)
 exact⟨⟨by omega,by omega,fun p hp=>by have:=YI (wt:=wT) hp;simp only[wT]at this;omega⟩,by omega⟩
theorem CA (x:Edge)(h:Hk x≤2097152):I3 x∧SJ x:=by
 simp only[Hk]at h
 have hl1:=Y2 (wt:=wT) (fun _=>by simp only[wT];omega) (xs:=x.tests)
 have hl2:=Y2 (wt:=wA) (fun _=>by simp only[wA];omega) (xs:=x.sets)
 have hl3:=Y2 (wt:=LZ) (fun _=>by simp only[LZ];omega) (xs:=x.clears)
 obtain⟨c1,c2,c3⟩:=Td x.cond (by omega)
 have hs:∀a∈x.sets,a.name.length≤2097152∧wE a.val≤2097152:=fun a ha=>by have:=YI (wt:=wA) ha;simp only[wA]at this;omega
 exact⟨⟨by omega,by omega,by omega,fun p hp=>by have:=YI (wt:=wT) hp;simp only[wT]at this;omega,⟨c1,by omega⟩,by omega,by omega,
  fun a ha=>by have:=hs a ha;have:=Td a.val this.2;exact⟨by omega,this.1,by omega⟩,by omega,fun p hp=>by have:=YI (wt:=LZ) hp;simp only[LZ]at this;omega⟩,
  by omega,c2,by omega,fun a ha=>(Td a.val (hs a ha).2).2.1,by omega⟩
theorem DW (p:Proc)(h:wP p≤2097152):RL p∧smP p:=by
 simp only[wP]at h
 have hl1:=Y2 (wt:=wL) (fun _=>by simp only[wL];omega) (xs:=p.locs)
 have hl2:=Y2 (wt:=Hk) (fun _=>by simp only[Hk];omega) (xs:=p.edges)
 have hL:∀l∈p.locs,wL l≤2097152:=fun l hl=>by have:=YI (wt:=wL) hl;omega
 have hE:∀l∈p.edges,Hk l≤2097152:=fun l hl=>by have:=YI (wt:=Hk) hl;omega
 exact⟨⟨by omega,by omega,by omega,fun l hl=>(Cb l (hL l hl)).1,by omega,fun l hl=>(CA l (hE l hl)).1⟩,
  by omega,fun l hl=>(Cb l (hL l hl)).2,by omega,fun l hl=>(CA l (hE l hl)).2⟩
theorem modB (m:Model)(h:wM m≤2097152):LtM m∧SmM m:=by
 simp only[wM]at h
 have hl1:=Y2 (wt:=wS) (fun _=>by simp only[wS];omega) (xs:=m.clocks)
 have hl2:=Y2 (wt:=wV) (fun _=>by simp only[wV];omega) (xs:=m.vars)
 have hl3:=Y2 (wt:=M0) (fun _=>by simp only[M0];omega) (xs:=m.chans)
 have hl4:=Y2 (wt:=wF) (fun _=>by simp only[wF];omega) (xs:=m.funcs)
 have hl5:=Y2 (wt:=wP) (fun _=>by simp only[wP];omega) (xs:=m.procs)
 have hF:∀l∈m.funcs,wF l≤2097152:=fun l hl=>by have:=YI (wt:=wF) hl;omega
 have hP:∀l∈m.procs,wP l≤2097152:=fun l hl=>by have:=YI (wt:=wP) hl;omega
 have hn:=S8 m.funcs ⟨0,0,false⟩ (by omega)
 exact⟨⟨by omega,by omega,fun p hp=>by have:=YI (wt:=wS) hp;simp only[wS]at this;omega,by omega,fun p hp=>by have:=YI (wt:=wV) hp;simp only[wV]at this;omega,by omega,
  fun p hp=>by have:=YI (wt:=M0) hp;simp only[M0]at this;omega,by omega,fun f hf=>(Cr f (hF f hf)).1,by simp only at hn;omega,by omega,fun p hp=>(DW p (hP p hp)).1⟩,
  ⟨by omega,by omega,by omega,by omega,fun f hf=>(Cr f (hF f hf)).2,by omega,fun p hp=>(DW p (hP p hp)).2⟩⟩
theorem HB {P:Program}{W:World}{n:String}{cs:Array Value}{g:Nat}(hg:P.globalNamed n=some g)(h:W.var? P n=some cs):∃el fr,W.heap[g]? =some (.cells cs el fr):=by
 unfold World.var? at h
 rw[hg]at h
 simp only[Option.bind_some]at h
 split at h
 ·rename_i c el fr hc
  simp only[cA]at h;subst h
  exact⟨el,fr,hc⟩
 ·cases h
theorem Ht {H:Type}{enc:TypeId×Value→H}{P:Program}{w:World}{base:Nat}{sp:Nat→Bool}{held:Bool}{fuel:Nat}{t:TypeId}{ms:Array (String×TypeId)}{cs:List Value}{name:String}{d:DataW H}{p:List MemPlace}
 (ht:P.underlying t=some (.interface ms))(h:DataW.trod enc P w base sp held fuel t cs=some (.iface name d,p)):∃u v,cs=[.iface u v]:=by
 cases fuel with
 |zero=>simp [DataW.trod]at h
 |succ fuel=>
  unfold DataW.trod at h
  rw[ht]at h
  split at h <;> first|exact⟨_,_,rfl⟩|simp_all
theorem g1:Tryz.prog.globalNamed "internal/strconv.uint64pow10" =some 1:=by kernel_rfl
theorem g4:Tryz.prog.globalNamed "strconv.ErrSyntax" =some 4:=by kernel_rfl
theorem g5:Tryz.prog.globalNamed "strconv.ErrRange" =some 5:=by kernel_rfl
theorem t1:(Tryz.prog.globals[1]?).map (·.type)=some 261:=by kernel_rfl
theorem t4:(Tryz.prog.globals[4]?).map (·.type)=some 104:=by kernel_rfl
theorem t5:(Tryz.prog.globals[5]?).map (·.type)=some 104:=by kernel_rfl
theorem c261:Tryz.prog.cellsOf 261=20:=by kernel_rfl
theorem c235:Tryz.prog.cellsOf 235=1:=by kernel_rfl
abbrev T0:List (String×DataW Unit):=[("math/bits.deBruijn32tab",Rows.laid_math_bits_deBruijn32tab),("math/bits.deBruijn64tab",Rows.laid_math_bits_deBruijn64tab),("internal/strconv.uint64pow10",Rows.laid_internal_strconv_uint64pow10),("strconv.ErrRange",Rows.laid_strconv_ErrRange),("strconv.ErrSyntax",Rows.laid_strconv_ErrSyntax)]
theorem Po {W:World}(h:laidMetH Tryz.prog T0 W):
 (∃el fr,W.heap[1]? =some (.cells (Lib.pow10Tab.map fun z=>Value.int .u64 z).toArray el fr))∧(∃u v el fr,W.heap[4]? =some (.cells #[.iface u v] el fr))∧(∃u v el fr,W.heap[5]? =some (.cells #[.iface u v] el fr)):=by
 obtain⟨ps,⟨_,_,_,_,_,_,_,_,_,_,⟨_,_,_,_,_,_,_,_,_,_,⟨ga,ta,ca,fa,pa,qa,hga,hta,hva,hda,⟨gb,tb,cb,fb,pb,qb,hgb,htb,hvb,hdb,⟨gc,tc,cc,fc,pc,qc,hgc,htc,hvc,hdc,_,_⟩,_⟩,_⟩,_⟩,_⟩,_⟩:=h
 obtain rfl:=lE (g1.symm.trans hga)
 obtain rfl:=lE (g5.symm.trans hgb)
 obtain rfl:=lE (g4.symm.trans hgc)
 obtain rfl:=lE (t1.symm.trans hta)
 obtain rfl:=lE (t5.symm.trans htb)
 obtain rfl:=lE (t4.symm.trans htc)
 refine⟨?_,?_,?_⟩
 ·obtain⟨el,fr,hh⟩:=HB hga hva
  have:ca.toList=Lib.pow10Tab.map fun z=>Value.int .u64 z:=Lib.cells_of_tab (zs:=Lib.pow10Tab) Tryz.underlying261 Tryz.underlying235 c235 c261 hda
  exact⟨el,fr,by rw[hh,←this]⟩
 ·obtain⟨el,fr,hh⟩:=HB hgc hvc
  obtain⟨u,v,hc⟩:=Ht Tryz.underlying104 hdc
  exact⟨u,v,el,fr,by rw[hh,←hc]⟩
 ·obtain⟨el,fr,hh⟩:=HB hgb hvb
  obtain⟨u,v,hc⟩:=Ht Tryz.underlying104 hdb
  exact⟨u,v,el,fr,by rw[hh,←hc]⟩
theorem GR {W:World}(h:laidMetH Tryz.prog T0 W):∃G,Gl G∧Rel G (κW W) (fun _=>none) W:=by
 obtain⟨⟨el1,fr1,h1⟩,⟨u4,v4,el4,fr4,h4⟩,u5,v5,el5,fr5,h5⟩:=Po h
 refine⟨fun g=>if g=1 then some (Lib.pow10Tab.map fun z=>.raw (.int .u64 z))else if g=4 then some [.iface u4 (.raw v4)]else if g=5 then some [.iface u5 (.raw v5)]else none,⟨⟨u4,.raw v4,rfl⟩,⟨u5,.raw v5,rfl⟩,rfl⟩,?_⟩
 have hT:∀b,¬VS (κW W) (fun _=>none) W b:=fun b ⟨id,o,x,e1,_⟩=>by cases e1
 have ifc:∀{g:Nat} {u v el fr},W.heap[g]? =some (.cells #[.iface u v] el fr)→Zs (κW W) g [.iface u (.raw v)] 0:=fun{g u v el fr} hh=>by
  simp only[Zs]
  exact⟨⟨.iface u v,by simp [κW,World.cell?,hh],by simp [Qd]⟩,trivial⟩
 have pow:Zs (κW W) 1 (Lib.pow10Tab.map fun z=>.raw (.int .u64 z)) 0:=by
  refine Sh (us:=Lib.pow10Tab.map fun z=>Value.int .u64 z) ?_ fun j hj=> ?_
  ·generalize Lib.pow10Tab=l
   induction l with
   |nil=>simp [Qi]
   |cons z l ih=>simp only[cJ,Qi];exact⟨_,_,rfl,by simp [Qd],ih⟩
  ·simp [World.cell?,h1]
 exact{
  imm:=fun b i v hv=>hv
  obj:=fun id o ho=>by cases ho
  inj:=fun id id' o o' x x' k ho=>by cases ho
  fin:=⟨0,fun _ _=>rfl⟩
  glob:=fun g cs hg=>by
   split at hg
   ·rename_i e;subst e;cases hg;exact pow
   ·split at hg
    ·rename_i e;subst e;cases hg;exact ifc h4
    ·split at hg
     ·rename_i e;subst e;cases hg;exact ifc h5
     ·cases hg
  gsz:=fun g cs hg=>by
   refine⟨?_,hT g⟩
   split at hg
   ·rename_i e;subst e;cases hg;exact⟨_,_,_,h1,by simp⟩
   ·split at hg
    ·rename_i e;subst e;cases hg;exact⟨_,_,_,h4,rfl⟩
    ·split at hg
     ·rename_i e;subst e;cases hg;exact⟨_,_,_,h5,rfl⟩
     ·cases hg
  typ:=fun id cs b e E ho=>by cases ho
  tyq:=fun id b e E ho=>by cases ho}
open Go.ChangeShapes Go.WideShapes Go.ChangeAt Go.RowKit
theorem Dl:laidOutB Tryz.prog=true:=by kernel_rfl
theorem AO:Tryz.prog.readableRec 29=true:=by kernel_rfl
theorem zO:29<Tryz.prog.types.size:=fE (by kernel_rfl)
theorem Np {κ κ':Kn}{A':Q2}{W W':World}(h:Step κ (fun _=>none) W κ' A' W'):∀b,b<W.heap.size→W'.heap[b]? =W.heap[b]? :=fun b hb=>h.keep b hb fun⟨id,o,x,e1,_⟩=>by cases e1
theorem zM {H:Type}{enc:TypeId×Value→H}{W W':World}{v:Value}{d:DataW H}{ps:List MemPlace}{sp:Nat→Bool}(hs:∀b,b<W.heap.size→W'.heap[b]? =W.heap[b]?)
 (h:DataW.Trod enc Tryz.prog W 0 (fun _=>true) true 29 v d ps)(hlt:∀x∈ps,x.block<W.heap.size)(hsp:∀x∈ps,sp x.block=true):DataW.Trod enc Tryz.prog W' 0 sp true 29 v d ps:=
 WideElems.Trod_stays Dl AO zO h (fun x hx=>by
  have:=hs x.block (hlt x hx)
  cases x with
  |cell b off=>simp only[MemPlace.block]at this;simp only[World.sameAt,World.cell?,this]
  |map b=>exact this) hsp
theorem Pk {W W':World}{may:MemPlace→Prop}(hs:∀b,b<W.heap.size→W'.heap[b]? =W.heap[b]?)(ho:W'.os=W.os)(hp:W'.output=W.output):W.keptBut W' may:=by
 refine⟨ho,hp,fun i hi=> ?_⟩
 rw[hs i hi]
 cases W.heap[i]? with
 |none=>rfl
 |some o=>
  cases o with
  |cells c t fr=>exact⟨rfl,rfl,rfl,fun _ _=>rfl⟩
  |map es clock=>exact .inr ⟨rfl,rfl⟩
  |_=>rfl
theorem Gc {W W':World}(hs:∀b,b<W.heap.size→W'.heap[b]? =W.heap[b]?){a:Addr}(ha:a.block<W.heap.size):W'.frozen? a=W.frozen? a:=by
 simp only[World.frozen?,hs _ ha]
section
variable {H:Type}{enc:TypeId×Value→H}
set_option maxRecDepth 100000 in
theorem NJ {f:Go.Func}{s:ChangeSpec}{W W':World}{args:Array Value}{ds:List (DataW H)}{before:List MemPlace}(hvars:s.vars=[])(hrt:f.resultTypes=#[4])(hfn:(s.fn H (ds++[])).results=[.lit (.bool true)]∧(s.fn H (ds++[])).args=ds∧(s.fn H (ds++[])).vars=[])
 (hs:∀b,b<W.heap.size→W'.heap[b]? =W.heap[b]?)(ho:W'.os=W.os)(hp:W'.output=W.output)
 (hW:DataW.Whole enc Tryz.prog f.params.toList s.vars false W args.toList ds [] before)
 (hargs:∀sp:Nat→Bool,(∀p∈before,sp p.block=true)→DataW.TrodAll enc Tryz.prog W' 0 sp true f.params.toList args.toList ds before):
 s.post enc Tryz.prog f false true false false W args (.bool true) W':=by
 have hlt:=hW.lt
 have hold:∀p∈before,(fun b=>decide (b<W.heap.size)) p.block=true:=fun p hp=>by simpa using hlt p hp
 have hv:∀sp:Nat→Bool,DataW.TrodVars enc Tryz.prog W' sp s.vars (s.fn H (ds++[])).vars []:=fun sp=>by rw[hvars,hfn.2.2];rfl
 have hr:∀(b:Nat) (sp:Nat→Bool) (hd:Bool),DataW.TrodAll enc Tryz.prog W' b sp hd f.resultTypes.toList ((Value.bool true).resultList f.resultTypes.size) (s.fn H (ds++[])).results []:=fun b sp hd=>by
  rw[hfn.1,hrt]
  exact trodAll_cons_mk (shut_bool Tryz.underlying4 _) trodAll_mk0
 have ha:∀sp:Nat→Bool,(∀p∈before,sp p.block=true)→DataW.TrodAll enc Tryz.prog W' 0 sp true f.params.toList args.toList (s.fn H (ds++[])).args before:=fun sp h=>by rw[hfn.2.1];exact hargs sp h
 have hok1:Value.okWide Tryz.prog W' .any 0 4 (.bool true):=okWide_bool_mk Tryz.underlying4 true
 have hok:=ok_one (P:=Tryz.prog) (W':=W') (f:=f) (v:=.bool true) (t:=4) hrt rfl hok1
 have hW0:=hW
 obtain⟨_,_,_,_,_,hz,_⟩:=hW0
 refine⟨ds,[],before,[],before,[],hW,hr _ _ _,ha _ hold,hv _,Pk hs ho hp,fun _=>⟨hok,(s.fn H (ds++[])).results++(s.fn H (ds++[])).args,(s.fn H (ds++[])).vars,([]++before)++[],⟨[]++before,[],trodAll_append (ha _ (fun _ _=>rfl)) (hr _ _ _),hv _,rfl,fun b off hb=> ?_,fun h=>by cases h⟩,fun p hp _=>by simpa using hp⟩⟩
 have hb:MemPlace.cell b off∈before:=by simpa using hb
 have:=hlt _ hb
 rw[Gc hs this]
 exact hz b off hb
end
end Go.Proofs.YtcbjbgaefighcaaGreatDoor
